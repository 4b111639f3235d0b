/- reclaim.Check, Direct, Stuck; oom.Allowed. Written by gen_ot3.py. -/
import Derived.Test.YtmbpjafiinfkkaaGreatDoorOT2
namespace Go.Proofs.YtmbpjafiinfkkaaGreatDoor
set_option linter.unusedSimpArgs false
set_option linter.unusedVariables false
open Go.RowKit Go.Maps

/-- The greater of two, as the builtin has it. -/
def mx (x y : Int) : Int := if y > x then y else x
theorem mx_gt {n x y : Int} : n < mx x y ↔ n < x ∨ n < y := by unfold mx; split <;> omega
def mx6 (a b c d e f : Int) : Int := mx (mx (mx (mx (mx a b) c) d) e) f
@[go_sem] theorem run_max6 {P : Program} (w : World) (ts : Array TypeId) (t : TypeId) (k k1 k2 k3 k4 k5 : IntKind) (a b c d e f : Int) : (Builtin.max_ ts t #[.int k a, .int k1 b, .int k2 c, .int k3 d, .int k4 e, .int k5 f]).run P w = .ok (.int k (mx6 a b c d e f)) w := by
  simp [Builtin.max_, Builtin.max2, mx6, mx]
theorem u64_gt {n x : Int} (hn : 0 ≤ n) (hn2 : n ≤ 1000) (h : -9223372036854775808 ≤ x ∧ x ≤ 9223372036854775807) : n < IntKind.u64.wrap x ↔ (x < 0 ∨ n < x) := by
  rw [IntKind.wrap_u64]; omega

/-- The ranges of a tally's fields. -/
def TOk (t : TL) : Prop := (-9223372036854775808 ≤ t.fr ∧ t.fr ≤ 9223372036854775807) ∧ (-9223372036854775808 ≤ t.ob ∧ t.ob ≤ 9223372036854775807) ∧ (-9223372036854775808 ≤ t.ac ∧ t.ac ≤ 9223372036854775807) ∧ (-9223372036854775808 ≤ t.ina ∧ t.ina ≤ 9223372036854775807) ∧ (-9223372036854775808 ≤ t.tg ∧ t.tg ≤ 9223372036854775807) ∧ (-9223372036854775808 ≤ t.sl ∧ t.sl ≤ 9223372036854775807) ∧ (-9223372036854775808 ≤ t.orp ∧ t.orp ≤ 9223372036854775807) ∧ (-9223372036854775808 ≤ t.rm ∧ t.rm ≤ 9223372036854775807) ∧ (-9223372036854775808 ≤ t.wr ∧ t.wr ≤ 9223372036854775807)

/-- The error of a tally. -/
def chkT (t : TL) : Int :=
  if t.fr < 0 ∨ 256 < t.fr ∨ t.ob < 0 ∨ 256 < t.ob ∨ t.ac < 0 ∨ 256 < t.ac ∨ t.ina < 0 ∨ 256 < t.ina ∨ t.tg < 0 ∨ 256 < t.tg ∨ t.sl < 0 ∨ 256 < t.sl then 2
  else if t.mn < 0 ∨ t.lw ≤ t.mn ∨ t.hi ≤ t.lw ∨ 256 < t.hi then 2
  else if t.cp < 1 ∨ 16 < t.cp ∨ t.wr < 0 ∨ t.cp < t.wr then 2
  else if t.orp < 0 ∨ 32 < t.orp ∨ t.rm < 0 ∨ 32 < t.rm then 2
  else if t.rf = true ∧ t.ina = 0 then 3 else 0

set_option maxRecDepth 100000 in
set_option maxHeartbeats 16000000 in
theorem Check33_any (t : TL) (ht : TOk t) (w : World) : Calls Tryz.prog 98 #[.agg (tlC t)] w fun e w' => e = .returned (.int .i64 (chkT t)) ∧ Below w.heap.size w w' := by
  obtain ⟨m6, h6⟩ : ∃ m6, mx6 (IntKind.u64.wrap t.fr) (IntKind.u64.wrap t.ob) (IntKind.u64.wrap t.ac) (IntKind.u64.wrap t.ina) (IntKind.u64.wrap t.tg) (IntKind.u64.wrap t.sl) = m6 := ⟨_, rfl⟩
  obtain ⟨m2, h2⟩ : ∃ m2, max (IntKind.u64.wrap t.orp) (IntKind.u64.wrap t.rm) = m2 := ⟨_, rfl⟩
  obtain ⟨uc, huc⟩ : ∃ uc, IntKind.u64.wrap t.cp = uc := ⟨_, rfl⟩
  obtain ⟨uw, huw⟩ : ∃ uw, IntKind.u64.wrap t.wr = uw := ⟨_, rfl⟩
  unfold TOk at ht
  have q6 : 256 < m6 ↔ (t.fr < 0 ∨ 256 < t.fr ∨ t.ob < 0 ∨ 256 < t.ob ∨ t.ac < 0 ∨ 256 < t.ac ∨ t.ina < 0 ∨ 256 < t.ina ∨ t.tg < 0 ∨ 256 < t.tg ∨ t.sl < 0 ∨ 256 < t.sl) := by
    rw [← h6]; unfold mx6
    simp only [mx_gt]
    rw [u64_gt (by omega) (by omega) (by omega), u64_gt (by omega) (by omega) (by omega), u64_gt (by omega) (by omega) (by omega), u64_gt (by omega) (by omega) (by omega), u64_gt (by omega) (by omega) (by omega), u64_gt (by omega) (by omega) (by omega)]
    omega
  have q2 : 32 < m2 ↔ (t.orp < 0 ∨ 32 < t.orp ∨ t.rm < 0 ∨ 32 < t.rm) := by
    have a1 := u64_gt (n := 32) (x := t.orp) (by omega) (by omega) (by omega)
    have a2 := u64_gt (n := 32) (x := t.rm) (by omega) (by omega) (by omega)
    rw [← h2]
    omega
  have qc : (1 ≤ t.cp ∧ t.cp ≤ 16) → (uc < uw ↔ (t.wr < 0 ∨ t.cp < t.wr)) := by
    intro h
    rw [← huc, ← huw, IntKind.wrap_u64, IntKind.wrap_u64]
    omega
  have n1 : ¬ 256 < m6 → ¬ (t.fr < 0 ∨ 256 < t.fr ∨ t.ob < 0 ∨ 256 < t.ob ∨ t.ac < 0 ∨ 256 < t.ac ∨ t.ina < 0 ∨ 256 < t.ina ∨ t.tg < 0 ∨ 256 < t.tg ∨ t.sl < 0 ∨ 256 < t.sl) := fun h h' => h (q6.2 h')
  have n4 : ¬ 32 < m2 → ¬ (t.orp < 0 ∨ 32 < t.orp ∨ t.rm < 0 ∨ 32 < t.rm) := fun h h' => h (q2.2 h')
  have hV := Lib.hid (show chkT t = chkT t from rfl)
  have hU : chkT t = if t.fr < 0 ∨ 256 < t.fr ∨ t.ob < 0 ∨ 256 < t.ob ∨ t.ac < 0 ∨ 256 < t.ac ∨ t.ina < 0 ∨ 256 < t.ina ∨ t.tg < 0 ∨ 256 < t.tg ∨ t.sl < 0 ∨ 256 < t.sl then 2
    else if t.mn < 0 ∨ t.lw ≤ t.mn ∨ t.hi ≤ t.lw ∨ 256 < t.hi then 2
    else if t.cp < 1 ∨ 16 < t.cp ∨ t.wr < 0 ∨ t.cp < t.wr then 2
    else if t.orp < 0 ∨ 32 < t.orp ∨ t.rm < 0 ∨ 32 < t.rm then 2
    else if t.rf = true ∧ t.ina = 0 then 3 else 0 := rfl
  generalize chkT t = z at *
  clear hV ht
  by_cases k0 : 256 < m6
  · skip
    have hz : z = 2 := by rw [hU, if_pos (q6.1 k0)]
    subst hz
    clear n1 n4 q6 q2 qc hU
    unfold tlC
    go_enter Tryz.func98, Tryz.ntmps98
    go_wp2_with (rw [h6])
    refine bodyPost_ret (v := .int .i64 2) (by simp [results, Tryz.results98, go_sem]) rfl ?_
    exact ⟨rfl, (by repeat' (first | with_reducible exact Below.refl _ _ | with_reducible assumption | with_reducible apply Below.drew | with_reducible apply below_drewN | with_reducible apply Below.alloc | with_reducible apply Below.setCell | (with_reducible refine Below.trans ?_ (Below.mono (by assumption) ?_)) | (simp; done) | (simp; omega) | omega | with_reducible apply le_size_alloc | with_reducible apply le_size_drewN | with_reducible apply le_size_drew | with_reducible apply le_size_setCell | refine Nat.le_trans ?_ (Below.size (by assumption))))⟩
  · skip
    by_cases k1 : t.mn < 0
    · skip
      have hz : z = 2 := by rw [hU, if_neg (n1 k0), if_pos (by omega)]
      subst hz
      clear n1 n4 q6 q2 qc hU
      unfold tlC
      go_enter Tryz.func98, Tryz.ntmps98
      go_wp2_with (rw [h6])
      refine bodyPost_ret (v := .int .i64 2) (by simp [results, Tryz.results98, go_sem]) rfl ?_
      exact ⟨rfl, (by repeat' (first | with_reducible exact Below.refl _ _ | with_reducible assumption | with_reducible apply Below.drew | with_reducible apply below_drewN | with_reducible apply Below.alloc | with_reducible apply Below.setCell | (with_reducible refine Below.trans ?_ (Below.mono (by assumption) ?_)) | (simp; done) | (simp; omega) | omega | with_reducible apply le_size_alloc | with_reducible apply le_size_drewN | with_reducible apply le_size_drew | with_reducible apply le_size_setCell | refine Nat.le_trans ?_ (Below.size (by assumption))))⟩
    · skip
      by_cases k2 : t.lw ≤ t.mn
      · skip
        have hz : z = 2 := by rw [hU, if_neg (n1 k0), if_pos (by omega)]
        subst hz
        clear n1 n4 q6 q2 qc hU
        unfold tlC
        go_enter Tryz.func98, Tryz.ntmps98
        go_wp2_with (rw [h6])
        refine bodyPost_ret (v := .int .i64 2) (by simp [results, Tryz.results98, go_sem]) rfl ?_
        exact ⟨rfl, (by repeat' (first | with_reducible exact Below.refl _ _ | with_reducible assumption | with_reducible apply Below.drew | with_reducible apply below_drewN | with_reducible apply Below.alloc | with_reducible apply Below.setCell | (with_reducible refine Below.trans ?_ (Below.mono (by assumption) ?_)) | (simp; done) | (simp; omega) | omega | with_reducible apply le_size_alloc | with_reducible apply le_size_drewN | with_reducible apply le_size_drew | with_reducible apply le_size_setCell | refine Nat.le_trans ?_ (Below.size (by assumption))))⟩
      · skip
        by_cases k3 : t.hi ≤ t.lw
        · skip
          have hz : z = 2 := by rw [hU, if_neg (n1 k0), if_pos (by omega)]
          subst hz
          clear n1 n4 q6 q2 qc hU
          unfold tlC
          go_enter Tryz.func98, Tryz.ntmps98
          go_wp2_with (rw [h6])
          refine bodyPost_ret (v := .int .i64 2) (by simp [results, Tryz.results98, go_sem]) rfl ?_
          exact ⟨rfl, (by repeat' (first | with_reducible exact Below.refl _ _ | with_reducible assumption | with_reducible apply Below.drew | with_reducible apply below_drewN | with_reducible apply Below.alloc | with_reducible apply Below.setCell | (with_reducible refine Below.trans ?_ (Below.mono (by assumption) ?_)) | (simp; done) | (simp; omega) | omega | with_reducible apply le_size_alloc | with_reducible apply le_size_drewN | with_reducible apply le_size_drew | with_reducible apply le_size_setCell | refine Nat.le_trans ?_ (Below.size (by assumption))))⟩
        · skip
          by_cases k4 : 256 < t.hi
          · skip
            have hz : z = 2 := by rw [hU, if_neg (n1 k0), if_pos (by omega)]
            subst hz
            clear n1 n4 q6 q2 qc hU
            unfold tlC
            go_enter Tryz.func98, Tryz.ntmps98
            go_wp2_with (rw [h6])
            refine bodyPost_ret (v := .int .i64 2) (by simp [results, Tryz.results98, go_sem]) rfl ?_
            exact ⟨rfl, (by repeat' (first | with_reducible exact Below.refl _ _ | with_reducible assumption | with_reducible apply Below.drew | with_reducible apply below_drewN | with_reducible apply Below.alloc | with_reducible apply Below.setCell | (with_reducible refine Below.trans ?_ (Below.mono (by assumption) ?_)) | (simp; done) | (simp; omega) | omega | with_reducible apply le_size_alloc | with_reducible apply le_size_drewN | with_reducible apply le_size_drew | with_reducible apply le_size_setCell | refine Nat.le_trans ?_ (Below.size (by assumption))))⟩
          · skip
            by_cases k5 : t.cp < 1
            · skip
              have hz : z = 2 := by rw [hU, if_neg (n1 k0), if_neg (by omega), if_pos (by omega)]
              subst hz
              clear n1 n4 q6 q2 qc hU
              unfold tlC
              go_enter Tryz.func98, Tryz.ntmps98
              go_wp2_with (rw [h6])
              refine bodyPost_ret (v := .int .i64 2) (by simp [results, Tryz.results98, go_sem]) rfl ?_
              exact ⟨rfl, (by repeat' (first | with_reducible exact Below.refl _ _ | with_reducible assumption | with_reducible apply Below.drew | with_reducible apply below_drewN | with_reducible apply Below.alloc | with_reducible apply Below.setCell | (with_reducible refine Below.trans ?_ (Below.mono (by assumption) ?_)) | (simp; done) | (simp; omega) | omega | with_reducible apply le_size_alloc | with_reducible apply le_size_drewN | with_reducible apply le_size_drew | with_reducible apply le_size_setCell | refine Nat.le_trans ?_ (Below.size (by assumption))))⟩
            · skip
              by_cases k6 : 16 < t.cp
              · skip
                have hz : z = 2 := by rw [hU, if_neg (n1 k0), if_neg (by omega), if_pos (by omega)]
                subst hz
                clear n1 n4 q6 q2 qc hU
                unfold tlC
                go_enter Tryz.func98, Tryz.ntmps98
                go_wp2_with (rw [h6])
                refine bodyPost_ret (v := .int .i64 2) (by simp [results, Tryz.results98, go_sem]) rfl ?_
                exact ⟨rfl, (by repeat' (first | with_reducible exact Below.refl _ _ | with_reducible assumption | with_reducible apply Below.drew | with_reducible apply below_drewN | with_reducible apply Below.alloc | with_reducible apply Below.setCell | (with_reducible refine Below.trans ?_ (Below.mono (by assumption) ?_)) | (simp; done) | (simp; omega) | omega | with_reducible apply le_size_alloc | with_reducible apply le_size_drewN | with_reducible apply le_size_drew | with_reducible apply le_size_setCell | refine Nat.le_trans ?_ (Below.size (by assumption))))⟩
              · skip
                by_cases k7 : uc < uw
                · skip
                  have hz : z = 2 := by have qc := qc (by omega); rw [hU, if_neg (n1 k0), if_neg (by omega), if_pos (by omega)]
                  subst hz
                  clear n1 n4 q6 q2 qc hU
                  unfold tlC
                  go_enter Tryz.func98, Tryz.ntmps98
                  go_wp2_with (rw [h6])
                  refine bodyPost_ret (v := .int .i64 2) (by simp [results, Tryz.results98, go_sem]) rfl ?_
                  exact ⟨rfl, (by repeat' (first | with_reducible exact Below.refl _ _ | with_reducible assumption | with_reducible apply Below.drew | with_reducible apply below_drewN | with_reducible apply Below.alloc | with_reducible apply Below.setCell | (with_reducible refine Below.trans ?_ (Below.mono (by assumption) ?_)) | (simp; done) | (simp; omega) | omega | with_reducible apply le_size_alloc | with_reducible apply le_size_drewN | with_reducible apply le_size_drew | with_reducible apply le_size_setCell | refine Nat.le_trans ?_ (Below.size (by assumption))))⟩
                · skip
                  by_cases k8 : 32 < m2
                  · skip
                    have hz : z = 2 := by have qc := qc (by omega); rw [hU, if_neg (n1 k0), if_neg (by omega), if_neg (by omega), if_pos (q2.1 k8)]
                    subst hz
                    clear n1 n4 q6 q2 qc hU
                    unfold tlC
                    go_enter Tryz.func98, Tryz.ntmps98
                    go_wp2_with (rw [h6])
                    refine bodyPost_ret (v := .int .i64 2) (by simp [results, Tryz.results98, go_sem]) rfl ?_
                    exact ⟨rfl, (by repeat' (first | with_reducible exact Below.refl _ _ | with_reducible assumption | with_reducible apply Below.drew | with_reducible apply below_drewN | with_reducible apply Below.alloc | with_reducible apply Below.setCell | (with_reducible refine Below.trans ?_ (Below.mono (by assumption) ?_)) | (simp; done) | (simp; omega) | omega | with_reducible apply le_size_alloc | with_reducible apply le_size_drewN | with_reducible apply le_size_drew | with_reducible apply le_size_setCell | refine Nat.le_trans ?_ (Below.size (by assumption))))⟩
                  · skip
                    cases k9 : t.rf with
                    | false =>
                      have hz : z = 0 := by have qc := qc (by omega); rw [hU, if_neg (n1 k0), if_neg (by omega), if_neg (by omega), if_neg (n4 k8), if_neg (by simp [k9])]
                      subst hz
                      clear n1 n4 q6 q2 qc hU
                      unfold tlC
                      go_enter Tryz.func98, Tryz.ntmps98
                      go_wp2_with (rw [h6])
                      refine bodyPost_ret (v := .int .i64 0) (by simp [results, Tryz.results98, go_sem]) rfl ?_
                      exact ⟨rfl, (by repeat' (first | with_reducible exact Below.refl _ _ | with_reducible assumption | with_reducible apply Below.drew | with_reducible apply below_drewN | with_reducible apply Below.alloc | with_reducible apply Below.setCell | (with_reducible refine Below.trans ?_ (Below.mono (by assumption) ?_)) | (simp; done) | (simp; omega) | omega | with_reducible apply le_size_alloc | with_reducible apply le_size_drewN | with_reducible apply le_size_drew | with_reducible apply le_size_setCell | refine Nat.le_trans ?_ (Below.size (by assumption))))⟩
                    | true =>
                      by_cases k10 : t.ina = 0
                      · skip
                        have hz : z = 3 := by have qc := qc (by omega); rw [hU, if_neg (n1 k0), if_neg (by omega), if_neg (by omega), if_neg (n4 k8), if_pos ⟨k9, k10⟩]
                        have j10 : (t.ina == 0) = true := by simpa using k10
                        clear k10
                        subst hz
                        clear n1 n4 q6 q2 qc hU
                        unfold tlC
                        go_enter Tryz.func98, Tryz.ntmps98
                        go_wp2_with (rw [h6])
                        refine bodyPost_ret (v := .int .i64 3) (by simp [results, Tryz.results98, go_sem]) rfl ?_
                        exact ⟨rfl, (by repeat' (first | with_reducible exact Below.refl _ _ | with_reducible assumption | with_reducible apply Below.drew | with_reducible apply below_drewN | with_reducible apply Below.alloc | with_reducible apply Below.setCell | (with_reducible refine Below.trans ?_ (Below.mono (by assumption) ?_)) | (simp; done) | (simp; omega) | omega | with_reducible apply le_size_alloc | with_reducible apply le_size_drewN | with_reducible apply le_size_drew | with_reducible apply le_size_setCell | refine Nat.le_trans ?_ (Below.size (by assumption))))⟩
                      · skip
                        have hz : z = 0 := by have qc := qc (by omega); rw [hU, if_neg (n1 k0), if_neg (by omega), if_neg (by omega), if_neg (n4 k8), if_neg (fun h => k10 h.2)]
                        have j10 : (t.ina == 0) = false := by simpa using k10
                        clear k10
                        subst hz
                        clear n1 n4 q6 q2 qc hU
                        unfold tlC
                        go_enter Tryz.func98, Tryz.ntmps98
                        go_wp2_with (rw [h6])
                        refine bodyPost_ret (v := .int .i64 0) (by simp [results, Tryz.results98, go_sem]) rfl ?_
                        exact ⟨rfl, (by repeat' (first | with_reducible exact Below.refl _ _ | with_reducible assumption | with_reducible apply Below.drew | with_reducible apply below_drewN | with_reducible apply Below.alloc | with_reducible apply Below.setCell | (with_reducible refine Below.trans ?_ (Below.mono (by assumption) ?_)) | (simp; done) | (simp; omega) | omega | with_reducible apply le_size_alloc | with_reducible apply le_size_drewN | with_reducible apply le_size_drew | with_reducible apply le_size_setCell | refine Nat.le_trans ?_ (Below.size (by assumption))))⟩

set_option maxRecDepth 100000 in
set_option maxHeartbeats 4000000 in
theorem Direct33_any (t : TL) (ht : TOk t) (w : World) : Calls Tryz.prog 73 #[.agg (tlC t)] w fun e w' => e = .returned (.tuple #[.int .i64 (if chkT t = 0 then dirT t else 0), .int .i64 (chkT t)]) ∧ Below w.heap.size w w' := by
  have hC := Check33_any t ht
  have hD := direct_any t
  generalize chkT t = z at *
  generalize dirT t = d at *
  unfold tlC at *
  clear ht
  by_cases h0 : z = 0
  · subst h0
    rw [if_pos rfl]
    go_enter Tryz.func73, Tryz.ntmps73
    go_wp2_with fail
    refine (hC _).mono ?_
    rintro e w1 ⟨rfl, hb1⟩
    have kB : Blk w1 w.heap.size 44 #[.int .i64 t.fr, .int .i64 t.mn, .int .i64 t.lw, .int .i64 t.hi, .bool t.aw, .int .i64 t.ob, .int .i64 t.ac, .int .i64 t.ina, .int .i64 t.tg, .bool t.rf, .int .i64 t.wr, .int .i64 t.cp, .int .i64 t.orp, .int .i64 t.rm, .int .i64 t.sl] := (Blk.new_ rfl rfl).below_ hb1 (by simp)
    have z1 := kB.lt
    have c0 := kB.cell_ 0; have c1 := kB.cell_ 1; have c2 := kB.cell_ 2; have c3 := kB.cell_ 3; have c4 := kB.cell_ 4; have c5 := kB.cell_ 5; have c6 := kB.cell_ 6; have c7 := kB.cell_ 7; have c8 := kB.cell_ 8; have c9 := kB.cell_ 9; have c10 := kB.cell_ 10; have c11 := kB.cell_ 11; have c12 := kB.cell_ 12; have c13 := kB.cell_ 13; have c14 := kB.cell_ 14
    simp at c0 c1 c2 c3 c4 c5 c6 c7 c8 c9 c10 c11 c12 c13 c14
    go_wp2_with fail
    refine (hD _).mono ?_
    rintro e w2 ⟨rfl, hb2⟩
    go_wp2
    refine bodyPost_ret (v := .tuple #[.int .i64 d, .int .i64 0]) (by simp [results, Tryz.results73, go_sem]) rfl ?_
    exact ⟨rfl, (by repeat' (first | with_reducible exact Below.refl _ _ | with_reducible assumption | with_reducible apply Below.drew | with_reducible apply below_drewN | with_reducible apply Below.alloc | with_reducible apply Below.setCell | (with_reducible refine Below.trans ?_ (Below.mono (by assumption) ?_)) | (simp; done) | (simp; omega) | omega | with_reducible apply le_size_alloc | with_reducible apply le_size_drewN | with_reducible apply le_size_drew | with_reducible apply le_size_setCell | refine Nat.le_trans ?_ (Below.size (by assumption))))⟩
  · have hb : (z != 0) = true := by simpa using h0
    rw [if_neg h0]
    clear h0
    go_enter Tryz.func73, Tryz.ntmps73
    go_wp2_with (refine (hC _).mono ?_; rintro e w1 ⟨rfl, hb1⟩)
    refine bodyPost_ret (v := .tuple #[.int .i64 0, .int .i64 z]) (by simp [results, Tryz.results73, go_sem]) rfl ?_
    exact ⟨rfl, (by repeat' (first | with_reducible exact Below.refl _ _ | with_reducible assumption | with_reducible apply Below.drew | with_reducible apply below_drewN | with_reducible apply Below.alloc | with_reducible apply Below.setCell | (with_reducible refine Below.trans ?_ (Below.mono (by assumption) ?_)) | (simp; done) | (simp; omega) | omega | with_reducible apply le_size_alloc | with_reducible apply le_size_drewN | with_reducible apply le_size_drew | with_reducible apply le_size_setCell | refine Nat.le_trans ?_ (Below.size (by assumption))))⟩

set_option maxRecDepth 100000 in
set_option maxHeartbeats 4000000 in
theorem Stuck33_any (t : TL) (ht : TOk t) (w : World) : Calls Tryz.prog 51 #[.agg (tlC t)] w fun e w' => e = .returned (.tuple #[.bool (if chkT t = 0 then dirT t == 6 else false), .int .i64 (chkT t)]) ∧ Below w.heap.size w w' := by
  have hC := Direct33_any t ht
  generalize chkT t = z at *
  generalize dirT t = d at *
  unfold tlC at *
  clear ht
  by_cases h0 : z = 0
  · subst h0
    rw [if_pos rfl] at hC ⊢
    go_enter Tryz.func51, Tryz.ntmps51
    go_wp2_with (refine (hC _).mono ?_; rintro e w1 ⟨rfl, hb1⟩)
    refine bodyPost_ret (v := .tuple #[.bool (d == 6), .int .i64 0]) (by simp [results, Tryz.results51, go_sem]) rfl ?_
    exact ⟨rfl, (by repeat' (first | with_reducible exact Below.refl _ _ | with_reducible assumption | with_reducible apply Below.drew | with_reducible apply below_drewN | with_reducible apply Below.alloc | with_reducible apply Below.setCell | (with_reducible refine Below.trans ?_ (Below.mono (by assumption) ?_)) | (simp; done) | (simp; omega) | omega | with_reducible apply le_size_alloc | with_reducible apply le_size_drewN | with_reducible apply le_size_drew | with_reducible apply le_size_setCell | refine Nat.le_trans ?_ (Below.size (by assumption))))⟩
  · have hb : (z != 0) = true := by simpa using h0
    rw [if_neg h0] at hC ⊢
    clear h0
    go_enter Tryz.func51, Tryz.ntmps51
    go_wp2_with (refine (hC _).mono ?_; rintro e w1 ⟨rfl, hb1⟩)
    refine bodyPost_ret (v := .tuple #[.bool false, .int .i64 z]) (by simp [results, Tryz.results51, go_sem]) rfl ?_
    exact ⟨rfl, (by repeat' (first | with_reducible exact Below.refl _ _ | with_reducible assumption | with_reducible apply Below.drew | with_reducible apply below_drewN | with_reducible apply Below.alloc | with_reducible apply Below.setCell | (with_reducible refine Below.trans ?_ (Below.mono (by assumption) ?_)) | (simp; done) | (simp; omega) | omega | with_reducible apply le_size_alloc | with_reducible apply le_size_drewN | with_reducible apply le_size_drew | with_reducible apply le_size_setCell | refine Nat.le_trans ?_ (Below.size (by assumption))))⟩

/-- Is a kill allowed? -/
def allB (t : TL) : Bool := if chkT t = 0 then (dirT t == 6) && decide (t.fr ≤ t.mn) else false
set_option maxRecDepth 100000 in
set_option maxHeartbeats 4000000 in
theorem Allowed_any (t : TL) (ht : TOk t) (w : World) : Calls Tryz.prog 23 #[.agg (tlC t)] w fun e w' => e = .returned (.tuple #[.bool (allB t), .int .i64 (chkT t)]) ∧ Below w.heap.size w w' := by
  have hC := Stuck33_any t ht
  unfold allB
  generalize chkT t = z at *
  generalize (dirT t == 6) = d at *
  unfold tlC at *
  clear ht
  by_cases h0 : z = 0
  · subst h0
    rw [if_pos rfl] at hC ⊢
    cases d with
    | true =>
      have HV : Hid ((true && decide (t.fr ≤ t.mn)) = decide (t.fr ≤ t.mn)) := by show _ = _; simp
      go_enter Tryz.func23, Tryz.ntmps23
      go_wp2_with fail
      refine (hC _).mono ?_
      rintro e w1 ⟨rfl, hb1⟩
      have kB : Blk w1 w.heap.size 44 #[.int .i64 t.fr, .int .i64 t.mn, .int .i64 t.lw, .int .i64 t.hi, .bool t.aw, .int .i64 t.ob, .int .i64 t.ac, .int .i64 t.ina, .int .i64 t.tg, .bool t.rf, .int .i64 t.wr, .int .i64 t.cp, .int .i64 t.orp, .int .i64 t.rm, .int .i64 t.sl] := (Blk.new_ rfl rfl).below_ hb1 (by simp)
      have z1 := kB.lt
      have c0 := kB.cell_ 0; have c1 := kB.cell_ 1
      simp at c0 c1
      go_wp2
      refine bodyPost_ret (v := .tuple #[.bool (decide (t.fr ≤ t.mn)), .int .i64 0]) (by simp [results, Tryz.results23, go_sem]) rfl ?_
      exact ⟨by rw [HV.out], (by repeat' (first | with_reducible exact Below.refl _ _ | with_reducible assumption | with_reducible apply Below.drew | with_reducible apply below_drewN | with_reducible apply Below.alloc | with_reducible apply Below.setCell | (with_reducible refine Below.trans ?_ (Below.mono (by assumption) ?_)) | (simp; done) | (simp; omega) | omega | with_reducible apply le_size_alloc | with_reducible apply le_size_drewN | with_reducible apply le_size_drew | with_reducible apply le_size_setCell | refine Nat.le_trans ?_ (Below.size (by assumption))))⟩
    | false =>
      have HV : Hid ((false && decide (t.fr ≤ t.mn)) = false) := by show _ = _; simp
      go_enter Tryz.func23, Tryz.ntmps23
      go_wp2_with fail
      refine (hC _).mono ?_
      rintro e w1 ⟨rfl, hb1⟩
      have kB : Blk w1 w.heap.size 44 #[.int .i64 t.fr, .int .i64 t.mn, .int .i64 t.lw, .int .i64 t.hi, .bool t.aw, .int .i64 t.ob, .int .i64 t.ac, .int .i64 t.ina, .int .i64 t.tg, .bool t.rf, .int .i64 t.wr, .int .i64 t.cp, .int .i64 t.orp, .int .i64 t.rm, .int .i64 t.sl] := (Blk.new_ rfl rfl).below_ hb1 (by simp)
      have z1 := kB.lt
      have c0 := kB.cell_ 0; have c1 := kB.cell_ 1
      simp at c0 c1
      go_wp2
      refine bodyPost_ret (v := .tuple #[.bool false, .int .i64 0]) (by simp [results, Tryz.results23, go_sem]) rfl ?_
      exact ⟨by rw [HV.out], (by repeat' (first | with_reducible exact Below.refl _ _ | with_reducible assumption | with_reducible apply Below.drew | with_reducible apply below_drewN | with_reducible apply Below.alloc | with_reducible apply Below.setCell | (with_reducible refine Below.trans ?_ (Below.mono (by assumption) ?_)) | (simp; done) | (simp; omega) | omega | with_reducible apply le_size_alloc | with_reducible apply le_size_drewN | with_reducible apply le_size_drew | with_reducible apply le_size_setCell | refine Nat.le_trans ?_ (Below.size (by assumption))))⟩
  · have hb : (z != 0) = true := by simpa using h0
    rw [if_neg h0] at hC ⊢
    clear h0
    go_enter Tryz.func23, Tryz.ntmps23
    go_wp2_with fail
    refine (hC _).mono ?_
    rintro e w1 ⟨rfl, hb1⟩
    go_wp2
    refine bodyPost_ret (v := .tuple #[.bool false, .int .i64 z]) (by simp [results, Tryz.results23, go_sem]) rfl ?_
    exact ⟨rfl, (by repeat' (first | with_reducible exact Below.refl _ _ | with_reducible assumption | with_reducible apply Below.drew | with_reducible apply below_drewN | with_reducible apply Below.alloc | with_reducible apply Below.setCell | (with_reducible refine Below.trans ?_ (Below.mono (by assumption) ?_)) | (simp; done) | (simp; omega) | omega | with_reducible apply le_size_alloc | with_reducible apply le_size_drewN | with_reducible apply le_size_drew | with_reducible apply le_size_setCell | refine Nat.le_trans ?_ (Below.size (by assumption))))⟩
end Go.Proofs.YtmbpjafiinfkkaaGreatDoor
