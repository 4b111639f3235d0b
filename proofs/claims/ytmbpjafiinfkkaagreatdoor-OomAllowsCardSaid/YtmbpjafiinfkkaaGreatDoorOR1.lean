/- The reference's upto, Check, Hinders, may, direct, Direct, Stuck (33), Allowed (34). Written by gen_or.py. -/
import Derived.Test.YtmbpjafiinfkkaaGreatDoorOT3
import Derived.Test.YtmbpjafiinfkkaaGreatDoorOP2
import Derived.Deep.DeepCutAuto
namespace Go.Proofs.YtmbpjafiinfkkaaGreatDoor
set_option linter.unusedSimpArgs false
set_option linter.unusedVariables false
open Go.RowKit Go.Maps

def uptoB (most : Int) (xs : List Int) : Bool := xs.all fun x => decide (0 ≤ x) && decide (x ≤ most)
theorem uptoB_bad {most : Int} {xs : List Int} {k : Nat} {x : Int} (h : xs[k]? = some x) (hx : x < 0 ∨ most < x) : uptoB most xs = false := by
  cases hb : uptoB most xs with
  | false => rfl
  | true =>
    unfold uptoB at hb
    rw [List.all_eq_true] at hb
    have := hb x (List.mem_of_getElem? h)
    simp at this
    omega
theorem uptoB_take {most : Int} {xs : List Int} {k : Nat} {x : Int} (h : xs[k]? = some x) (hr : uptoB most (xs.take k) = true) (hx : 0 ≤ x ∧ x ≤ most) : uptoB most (xs.take (k + 1)) = true := by
  rw [take_snocG h]
  unfold uptoB at *
  rw [List.all_append, hr]
  simp [hx.1, hx.2]

set_option maxRecDepth 100000 in
set_option maxHeartbeats 2000000 in
theorem upto_any (most : Int) (A : Option Addr) (c : Nat) (xs : List Int) (w : World) (hs : Sl w (.int .i64) A xs) (hl : xs.length ≤ 1000) : Calls Tryz.prog 118 #[.int .i64 most, .slice A xs.length c] w fun e w' => e = .returned (.bool (uptoB most xs)) ∧ Below w.heap.size w w' := by
  obtain ⟨z, hz⟩ : ∃ z, uptoB most xs = z := ⟨_, rfl⟩
  rw [hz]
  have HZ := Lib.hid hz
  have HS := Lib.hid hs
  clear hz hs
  go_enter Tryz.func118, Tryz.ntmps118
  go_wp2
  go_loopw [5] (fun i wr => ∃ k : Nat, k ≤ xs.length ∧ i = .int .i64 k ∧ Hid (uptoB most (xs.take k) = true) ∧ Below w.heap.size w wr) (fun i _ => xs.length - (intOf i).toNat)
  case atStart => exact ⟨0, by omega, rfl, rfl, Below.refl _ _⟩
  case round =>
    obtain ⟨k, hk, rfl, HR, hbw⟩ := hrel
    by_cases hlt : k < xs.length
    · obtain ⟨b, off, x, rfl, hbl, hx, hc⟩ := (HS.out.ext hbw).at_ hlt
      have i1 : (k : Int) < xs.length := by omega
      by_cases h1 : x < 0
      · have hzz : z = false := by rw [← HZ.out]; exact uptoB_bad hx (.inl h1)
        subst hzz
        clear hx HR
        go_wp2
        refine bodyPost_ret (v := .bool false) (by simp [results, Tryz.results118, go_sem]) rfl ?_
        exact ⟨rfl, (by repeat' (first | with_reducible exact Below.refl _ _ | with_reducible assumption | with_reducible apply Below.drew | with_reducible apply below_drewN | with_reducible apply Below.alloc | with_reducible apply Below.setCell | (with_reducible refine Below.trans ?_ (Below.mono (by assumption) ?_)) | (simp; done) | (simp; omega) | omega | with_reducible apply le_size_alloc | with_reducible apply le_size_drewN | with_reducible apply le_size_drew | with_reducible apply le_size_setCell | refine Nat.le_trans ?_ (Below.size (by assumption))))⟩
      · by_cases h2 : most < x
        · have hzz : z = false := by rw [← HZ.out]; exact uptoB_bad hx (.inr h2)
          subst hzz
          clear hx HR
          go_wp2
          refine bodyPost_ret (v := .bool false) (by simp [results, Tryz.results118, go_sem]) rfl ?_
          exact ⟨rfl, (by repeat' (first | with_reducible exact Below.refl _ _ | with_reducible assumption | with_reducible apply Below.drew | with_reducible apply below_drewN | with_reducible apply Below.alloc | with_reducible apply Below.setCell | (with_reducible refine Below.trans ?_ (Below.mono (by assumption) ?_)) | (simp; done) | (simp; omega) | omega | with_reducible apply le_size_alloc | with_reducible apply le_size_drewN | with_reducible apply le_size_drew | with_reducible apply le_size_setCell | refine Nat.le_trans ?_ (Below.size (by assumption))))⟩
        · have HR2 : Hid (uptoB most (xs.take (k + 1)) = true) := uptoB_take hx HR.out ⟨by omega, by omega⟩
          clear hx HR
          go_wp2
          go_roundw
          case rel => exact ⟨k + 1, by omega, by go_num, HR2.out, (by repeat' (first | with_reducible exact Below.refl _ _ | with_reducible assumption | with_reducible apply Below.drew | with_reducible apply below_drewN | with_reducible apply Below.alloc | with_reducible apply Below.setCell | (with_reducible refine Below.trans ?_ (Below.mono (by assumption) ?_)) | (simp; done) | (simp; omega) | omega | with_reducible apply le_size_alloc | with_reducible apply le_size_drewN | with_reducible apply le_size_drew | with_reducible apply le_size_setCell | refine Nat.le_trans ?_ (Below.size (by assumption))))⟩
          case measure => simp [intOf]; omega
    · obtain rfl : k = xs.length := by omega
      have hzz : z = true := by rw [← HZ.out]; have := HR.out; rwa [List.take_length] at this
      subst hzz
      clear HR hlt
      go_wp2
      refine bodyPost_ret (v := .bool true) (by simp [results, Tryz.results118, go_sem]) rfl ?_
      exact ⟨rfl, (by repeat' (first | with_reducible exact Below.refl _ _ | with_reducible assumption | with_reducible apply Below.drew | with_reducible apply below_drewN | with_reducible apply Below.alloc | with_reducible apply Below.setCell | (with_reducible refine Below.trans ?_ (Below.mono (by assumption) ?_)) | (simp; done) | (simp; omega) | omega | with_reducible apply le_size_alloc | with_reducible apply le_size_drewN | with_reducible apply le_size_drew | with_reducible apply le_size_setCell | refine Nat.le_trans ?_ (Below.size (by assumption))))⟩

set_option maxRecDepth 100000 in
set_option maxHeartbeats 16000000 in
theorem rCheck33_any (t : TL) (w : World) : Calls Tryz.prog 100 #[.agg (tlC t)] w fun e w' => e = .returned (.int .i64 (chkT t)) ∧ Below w.heap.size w w' := by
  obtain ⟨a1, ha1⟩ : ∃ a1, uptoB 256 [t.fr, t.ob, t.ac, t.ina, t.tg, t.sl] = a1 := ⟨_, rfl⟩
  obtain ⟨a2, ha2⟩ : ∃ a2, uptoB 32 [t.orp, t.rm] = a2 := ⟨_, rfl⟩
  have H1 := Lib.hid ha1
  have H2 := Lib.hid ha2
  have q1 : a1 = true ↔ ¬ (t.fr < 0 ∨ 256 < t.fr ∨ t.ob < 0 ∨ 256 < t.ob ∨ t.ac < 0 ∨ 256 < t.ac ∨ t.ina < 0 ∨ 256 < t.ina ∨ t.tg < 0 ∨ 256 < t.tg ∨ t.sl < 0 ∨ 256 < t.sl) := by
    rw [← ha1]
    unfold uptoB
    simp
    omega
  have q2 : a2 = true ↔ ¬ (t.orp < 0 ∨ 32 < t.orp ∨ t.rm < 0 ∨ 32 < t.rm) := by
    rw [← ha2]
    unfold uptoB
    simp
    omega
  have n1 : a1 = true → ¬ (t.fr < 0 ∨ 256 < t.fr ∨ t.ob < 0 ∨ 256 < t.ob ∨ t.ac < 0 ∨ 256 < t.ac ∨ t.ina < 0 ∨ 256 < t.ina ∨ t.tg < 0 ∨ 256 < t.tg ∨ t.sl < 0 ∨ 256 < t.sl) := q1.1
  have n4 : a2 = true → ¬ (t.orp < 0 ∨ 32 < t.orp ∨ t.rm < 0 ∨ 32 < t.rm) := q2.1
  have m1 : a1 = false → (t.fr < 0 ∨ 256 < t.fr ∨ t.ob < 0 ∨ 256 < t.ob ∨ t.ac < 0 ∨ 256 < t.ac ∨ t.ina < 0 ∨ 256 < t.ina ∨ t.tg < 0 ∨ 256 < t.tg ∨ t.sl < 0 ∨ 256 < t.sl) := fun h => Classical.not_not.1 fun h' => by rw [q1.2 h'] at h; cases h
  have m4 : a2 = false → (t.orp < 0 ∨ 32 < t.orp ∨ t.rm < 0 ∨ 32 < t.rm) := fun h => Classical.not_not.1 fun h' => by rw [q2.2 h'] at h; cases h
  have hU : chkT t = if t.fr < 0 ∨ 256 < t.fr ∨ t.ob < 0 ∨ 256 < t.ob ∨ t.ac < 0 ∨ 256 < t.ac ∨ t.ina < 0 ∨ 256 < t.ina ∨ t.tg < 0 ∨ 256 < t.tg ∨ t.sl < 0 ∨ 256 < t.sl then 2
    else if t.mn < 0 ∨ t.lw ≤ t.mn ∨ t.hi ≤ t.lw ∨ 256 < t.hi then 2
    else if t.cp < 1 ∨ 16 < t.cp ∨ t.wr < 0 ∨ t.cp < t.wr then 2
    else if t.orp < 0 ∨ 32 < t.orp ∨ t.rm < 0 ∨ 32 < t.rm then 2
    else if t.rf = true ∧ t.ina = 0 then 3 else 0 := rfl
  generalize chkT t = z at *
  clear q1 q2 ha1 ha2
  have hU1 := fun w A c hs => upto_any 256 A c [t.fr, t.ob, t.ac, t.ina, t.tg, t.sl] w hs (by simp)
  have hU2 := fun w A c hs => upto_any 32 A c [t.orp, t.rm] w hs (by simp)
  rw [H1.out] at hU1
  rw [H2.out] at hU2
  simp only [List.length_cons, List.length_nil, Nat.zero_add, Nat.reduceAdd] at hU1 hU2
  have HU := Lib.hid hU
  clear hU
  unfold tlC
  go_enter Tryz.func100, Tryz.ntmps100
  go_wp2_with fail
  refine (hU1 _ _ _ (Sl.of_lit (Blk.new_ (by simp) rfl))).mono ?_
  rintro e w1 ⟨rfl, hb1⟩
  have kB : Blk w1 w.heap.size 44 #[.int .i64 t.fr, .int .i64 t.mn, .int .i64 t.lw, .int .i64 t.hi, .bool t.aw, .int .i64 t.ob, .int .i64 t.ac, .int .i64 t.ina, .int .i64 t.tg, .bool t.rf, .int .i64 t.wr, .int .i64 t.cp, .int .i64 t.orp, .int .i64 t.rm, .int .i64 t.sl] := ((Blk.new_ rfl rfl).alloc_ _).below_ hb1 (by simp; omega)
  have z1 := kB.lt
  have c1 := kB.cell_ 1
  have c2 := kB.cell_ 2
  have c3 := kB.cell_ 3
  have c7 := kB.cell_ 7
  have c9 := kB.cell_ 9
  have c10 := kB.cell_ 10
  have c11 := kB.cell_ 11
  have c12 := kB.cell_ 12
  have c13 := kB.cell_ 13
  simp at c1 c2 c3 c7 c9 c10 c11 c12 c13
  clear hU1
  cases a1
  · skip
    have hz : z = 2 := by rw [HU.out, if_pos (m1 (by simp))]
    subst hz
    clear n1 n4 m1 m4 HU
    go_wp2
    refine bodyPost_ret (v := .int .i64 2) (by simp [results, Tryz.results100, go_sem]) rfl ?_
    exact ⟨rfl, (by repeat' (first | with_reducible exact Below.refl _ _ | with_reducible assumption | with_reducible apply Below.drew | with_reducible apply below_drewN | with_reducible apply Below.alloc | with_reducible apply Below.setCell | (with_reducible refine Below.trans ?_ (Below.mono (by assumption) ?_)) | (simp; done) | (simp; omega) | omega | with_reducible apply le_size_alloc | with_reducible apply le_size_drewN | with_reducible apply le_size_drew | with_reducible apply le_size_setCell | refine Nat.le_trans ?_ (Below.size (by assumption))))⟩
  · skip
    by_cases k0 : t.mn < 0
    · skip
      have hz : z = 2 := by rw [HU.out, if_neg (n1 (by simp)), if_pos (by omega)]
      subst hz
      clear n1 n4 m1 m4 HU
      go_wp2
      refine bodyPost_ret (v := .int .i64 2) (by simp [results, Tryz.results100, go_sem]) rfl ?_
      exact ⟨rfl, (by repeat' (first | with_reducible exact Below.refl _ _ | with_reducible assumption | with_reducible apply Below.drew | with_reducible apply below_drewN | with_reducible apply Below.alloc | with_reducible apply Below.setCell | (with_reducible refine Below.trans ?_ (Below.mono (by assumption) ?_)) | (simp; done) | (simp; omega) | omega | with_reducible apply le_size_alloc | with_reducible apply le_size_drewN | with_reducible apply le_size_drew | with_reducible apply le_size_setCell | refine Nat.le_trans ?_ (Below.size (by assumption))))⟩
    · skip
      by_cases k1 : t.lw ≤ t.mn
      · skip
        have hz : z = 2 := by rw [HU.out, if_neg (n1 (by simp)), if_pos (by omega)]
        subst hz
        clear n1 n4 m1 m4 HU
        go_wp2
        refine bodyPost_ret (v := .int .i64 2) (by simp [results, Tryz.results100, go_sem]) rfl ?_
        exact ⟨rfl, (by repeat' (first | with_reducible exact Below.refl _ _ | with_reducible assumption | with_reducible apply Below.drew | with_reducible apply below_drewN | with_reducible apply Below.alloc | with_reducible apply Below.setCell | (with_reducible refine Below.trans ?_ (Below.mono (by assumption) ?_)) | (simp; done) | (simp; omega) | omega | with_reducible apply le_size_alloc | with_reducible apply le_size_drewN | with_reducible apply le_size_drew | with_reducible apply le_size_setCell | refine Nat.le_trans ?_ (Below.size (by assumption))))⟩
      · skip
        by_cases k2 : t.hi ≤ t.lw
        · skip
          have hz : z = 2 := by rw [HU.out, if_neg (n1 (by simp)), if_pos (by omega)]
          subst hz
          clear n1 n4 m1 m4 HU
          go_wp2
          refine bodyPost_ret (v := .int .i64 2) (by simp [results, Tryz.results100, go_sem]) rfl ?_
          exact ⟨rfl, (by repeat' (first | with_reducible exact Below.refl _ _ | with_reducible assumption | with_reducible apply Below.drew | with_reducible apply below_drewN | with_reducible apply Below.alloc | with_reducible apply Below.setCell | (with_reducible refine Below.trans ?_ (Below.mono (by assumption) ?_)) | (simp; done) | (simp; omega) | omega | with_reducible apply le_size_alloc | with_reducible apply le_size_drewN | with_reducible apply le_size_drew | with_reducible apply le_size_setCell | refine Nat.le_trans ?_ (Below.size (by assumption))))⟩
        · skip
          by_cases k3 : 256 < t.hi
          · skip
            have hz : z = 2 := by rw [HU.out, if_neg (n1 (by simp)), if_pos (by omega)]
            subst hz
            clear n1 n4 m1 m4 HU
            go_wp2
            refine bodyPost_ret (v := .int .i64 2) (by simp [results, Tryz.results100, go_sem]) rfl ?_
            exact ⟨rfl, (by repeat' (first | with_reducible exact Below.refl _ _ | with_reducible assumption | with_reducible apply Below.drew | with_reducible apply below_drewN | with_reducible apply Below.alloc | with_reducible apply Below.setCell | (with_reducible refine Below.trans ?_ (Below.mono (by assumption) ?_)) | (simp; done) | (simp; omega) | omega | with_reducible apply le_size_alloc | with_reducible apply le_size_drewN | with_reducible apply le_size_drew | with_reducible apply le_size_setCell | refine Nat.le_trans ?_ (Below.size (by assumption))))⟩
          · skip
            by_cases k4 : t.cp < 1
            · skip
              have hz : z = 2 := by rw [HU.out, if_neg (n1 (by simp)), if_neg (by omega), if_pos (by omega)]
              subst hz
              clear n1 n4 m1 m4 HU
              go_wp2
              refine bodyPost_ret (v := .int .i64 2) (by simp [results, Tryz.results100, go_sem]) rfl ?_
              exact ⟨rfl, (by repeat' (first | with_reducible exact Below.refl _ _ | with_reducible assumption | with_reducible apply Below.drew | with_reducible apply below_drewN | with_reducible apply Below.alloc | with_reducible apply Below.setCell | (with_reducible refine Below.trans ?_ (Below.mono (by assumption) ?_)) | (simp; done) | (simp; omega) | omega | with_reducible apply le_size_alloc | with_reducible apply le_size_drewN | with_reducible apply le_size_drew | with_reducible apply le_size_setCell | refine Nat.le_trans ?_ (Below.size (by assumption))))⟩
            · skip
              by_cases k5 : 16 < t.cp
              · skip
                have hz : z = 2 := by rw [HU.out, if_neg (n1 (by simp)), if_neg (by omega), if_pos (by omega)]
                subst hz
                clear n1 n4 m1 m4 HU
                go_wp2
                refine bodyPost_ret (v := .int .i64 2) (by simp [results, Tryz.results100, go_sem]) rfl ?_
                exact ⟨rfl, (by repeat' (first | with_reducible exact Below.refl _ _ | with_reducible assumption | with_reducible apply Below.drew | with_reducible apply below_drewN | with_reducible apply Below.alloc | with_reducible apply Below.setCell | (with_reducible refine Below.trans ?_ (Below.mono (by assumption) ?_)) | (simp; done) | (simp; omega) | omega | with_reducible apply le_size_alloc | with_reducible apply le_size_drewN | with_reducible apply le_size_drew | with_reducible apply le_size_setCell | refine Nat.le_trans ?_ (Below.size (by assumption))))⟩
              · skip
                by_cases k6 : t.wr < 0
                · skip
                  have hz : z = 2 := by rw [HU.out, if_neg (n1 (by simp)), if_neg (by omega), if_pos (by omega)]
                  subst hz
                  clear n1 n4 m1 m4 HU
                  go_wp2
                  refine bodyPost_ret (v := .int .i64 2) (by simp [results, Tryz.results100, go_sem]) rfl ?_
                  exact ⟨rfl, (by repeat' (first | with_reducible exact Below.refl _ _ | with_reducible assumption | with_reducible apply Below.drew | with_reducible apply below_drewN | with_reducible apply Below.alloc | with_reducible apply Below.setCell | (with_reducible refine Below.trans ?_ (Below.mono (by assumption) ?_)) | (simp; done) | (simp; omega) | omega | with_reducible apply le_size_alloc | with_reducible apply le_size_drewN | with_reducible apply le_size_drew | with_reducible apply le_size_setCell | refine Nat.le_trans ?_ (Below.size (by assumption))))⟩
                · skip
                  by_cases k7 : t.cp < t.wr
                  · skip
                    have hz : z = 2 := by rw [HU.out, if_neg (n1 (by simp)), if_neg (by omega), if_pos (by omega)]
                    subst hz
                    clear n1 n4 m1 m4 HU
                    go_wp2
                    refine bodyPost_ret (v := .int .i64 2) (by simp [results, Tryz.results100, go_sem]) rfl ?_
                    exact ⟨rfl, (by repeat' (first | with_reducible exact Below.refl _ _ | with_reducible assumption | with_reducible apply Below.drew | with_reducible apply below_drewN | with_reducible apply Below.alloc | with_reducible apply Below.setCell | (with_reducible refine Below.trans ?_ (Below.mono (by assumption) ?_)) | (simp; done) | (simp; omega) | omega | with_reducible apply le_size_alloc | with_reducible apply le_size_drewN | with_reducible apply le_size_drew | with_reducible apply le_size_setCell | refine Nat.le_trans ?_ (Below.size (by assumption))))⟩
                  · skip
                    go_wp2_with fail
                    refine (hU2 _ _ _ (Sl.of_lit (Blk.new_ (by simp) rfl))).mono ?_
                    rintro e w2 ⟨rfl, hb2⟩
                    have kC : Blk w2 w.heap.size 44 #[.int .i64 t.fr, .int .i64 t.mn, .int .i64 t.lw, .int .i64 t.hi, .bool t.aw, .int .i64 t.ob, .int .i64 t.ac, .int .i64 t.ina, .int .i64 t.tg, .bool t.rf, .int .i64 t.wr, .int .i64 t.cp, .int .i64 t.orp, .int .i64 t.rm, .int .i64 t.sl] := (kB.alloc_ _).below_ hb2 (by simp; omega)
                    have z2 := kC.lt
                    have d7 := kC.cell_ 7; have d9 := kC.cell_ 9
                    simp at d7 d9
                    clear hU2
                    cases a2
                    · skip
                      have hz : z = 2 := by rw [HU.out, if_neg (n1 (by simp)), if_neg (by omega), if_neg (by omega), if_pos (m4 (by simp))]
                      subst hz
                      clear n1 n4 m1 m4 HU
                      go_wp2
                      refine bodyPost_ret (v := .int .i64 2) (by simp [results, Tryz.results100, go_sem]) rfl ?_
                      exact ⟨rfl, (by repeat' (first | with_reducible exact Below.refl _ _ | with_reducible assumption | with_reducible apply Below.drew | with_reducible apply below_drewN | with_reducible apply Below.alloc | with_reducible apply Below.setCell | (with_reducible refine Below.trans ?_ (Below.mono (by assumption) ?_)) | (simp; done) | (simp; omega) | omega | with_reducible apply le_size_alloc | with_reducible apply le_size_drewN | with_reducible apply le_size_drew | with_reducible apply le_size_setCell | refine Nat.le_trans ?_ (Below.size (by assumption))))⟩
                    · skip
                      cases k9 : t.rf with
                      | false =>
                        rw [k9] at d9
                        have hz : z = 0 := by rw [HU.out, if_neg (n1 (by simp)), if_neg (by omega), if_neg (by omega), if_neg (n4 (by simp)), if_neg (by simp [k9])]
                        subst hz
                        clear n1 n4 m1 m4 HU
                        go_wp2
                        refine bodyPost_ret (v := .int .i64 0) (by simp [results, Tryz.results100, go_sem]) rfl ?_
                        exact ⟨rfl, (by repeat' (first | with_reducible exact Below.refl _ _ | with_reducible assumption | with_reducible apply Below.drew | with_reducible apply below_drewN | with_reducible apply Below.alloc | with_reducible apply Below.setCell | (with_reducible refine Below.trans ?_ (Below.mono (by assumption) ?_)) | (simp; done) | (simp; omega) | omega | with_reducible apply le_size_alloc | with_reducible apply le_size_drewN | with_reducible apply le_size_drew | with_reducible apply le_size_setCell | refine Nat.le_trans ?_ (Below.size (by assumption))))⟩
                      | true =>
                        rw [k9] at d9
                        by_cases k10 : t.ina = 0
                        · skip
                          have hz : z = 3 := by rw [HU.out, if_neg (n1 (by simp)), if_neg (by omega), if_neg (by omega), if_neg (n4 (by simp)), if_pos ⟨k9, k10⟩]
                          have j10 : (t.ina == 0) = true := by simpa using k10
                          clear k10
                          subst hz
                          clear n1 n4 m1 m4 HU
                          go_wp2
                          refine bodyPost_ret (v := .int .i64 3) (by simp [results, Tryz.results100, go_sem]) rfl ?_
                          exact ⟨rfl, (by repeat' (first | with_reducible exact Below.refl _ _ | with_reducible assumption | with_reducible apply Below.drew | with_reducible apply below_drewN | with_reducible apply Below.alloc | with_reducible apply Below.setCell | (with_reducible refine Below.trans ?_ (Below.mono (by assumption) ?_)) | (simp; done) | (simp; omega) | omega | with_reducible apply le_size_alloc | with_reducible apply le_size_drewN | with_reducible apply le_size_drew | with_reducible apply le_size_setCell | refine Nat.le_trans ?_ (Below.size (by assumption))))⟩
                        · skip
                          have hz : z = 0 := by rw [HU.out, if_neg (n1 (by simp)), if_neg (by omega), if_neg (by omega), if_neg (n4 (by simp)), if_neg (fun h => k10 h.2)]
                          have j10 : (t.ina == 0) = false := by simpa using k10
                          clear k10
                          subst hz
                          clear n1 n4 m1 m4 HU
                          go_wp2
                          refine bodyPost_ret (v := .int .i64 0) (by simp [results, Tryz.results100, go_sem]) rfl ?_
                          exact ⟨rfl, (by repeat' (first | with_reducible exact Below.refl _ _ | with_reducible assumption | with_reducible apply Below.drew | with_reducible apply below_drewN | with_reducible apply Below.alloc | with_reducible apply Below.setCell | (with_reducible refine Below.trans ?_ (Below.mono (by assumption) ?_)) | (simp; done) | (simp; omega) | omega | with_reducible apply le_size_alloc | with_reducible apply le_size_drewN | with_reducible apply le_size_drew | with_reducible apply le_size_setCell | refine Nat.le_trans ?_ (Below.size (by assumption))))⟩

/-- How many hinders there are, of any tally. -/
def hinE (t : TL) : Nat := if chkT t = 0 then hinN t 4 else 0
set_option maxRecDepth 100000 in
set_option maxHeartbeats 16000000 in
theorem rHinders33_any (t : TL) (w : World) : Calls Tryz.prog 133 #[.agg (tlC t)] w fun e w' => (∃ A c, e = .returned (.tuple #[.slice A (hinE t) c, .int .i64 (chkT t)])) ∧ Below w.heap.size w w' := by
  have hC := rCheck33_any t
  by_cases h0 : chkT t = 0
  · have e0 : hinE t = hinN t 4 := if_pos h0
    rw [h0] at hC ⊢
    rw [e0]
    clear e0 h0
    have s0 := hinN_next t (k := 0) rfl
    have s1 := hinN_next t (k := 1) rfl
    have s2 := hinN_next t (k := 2) rfl
    have s3 := hinN_next t (k := 3) rfl
    have z0 : hinN t 0 = 0 := rfl
    rw [z0] at s0
    have S0 := Lib.hid s0; have S1 := Lib.hid s1; have S2 := Lib.hid s2; have S3 := Lib.hid s3
    clear s0 s1 s2 s3 z0
    unfold tlC at *
    go_enter Tryz.func133, Tryz.ntmps133
    go_wp2_with fail
    refine (hC _).mono ?_
    rintro e w1 ⟨rfl, hb1⟩
    have kB : Blk w1 w.heap.size 44 #[.int .i64 t.fr, .int .i64 t.mn, .int .i64 t.lw, .int .i64 t.hi, .bool t.aw, .int .i64 t.ob, .int .i64 t.ac, .int .i64 t.ina, .int .i64 t.tg, .bool t.rf, .int .i64 t.wr, .int .i64 t.cp, .int .i64 t.orp, .int .i64 t.rm, .int .i64 t.sl] := (Blk.new_ rfl rfl).below_ hb1 (by simp)
    have z1 := kB.lt
    have c6 := kB.cell_ 6; have c7 := kB.cell_ 7; have c10 := kB.cell_ 10; have c11 := kB.cell_ 11; have c13 := kB.cell_ 13; have c14 := kB.cell_ 14
    simp at c6 c7 c10 c11 c13 c14
    go_upto_region 5 with fail
    go_cut [18] (fun s wx => s = .bool (t.ac == 0 && t.ina == 0) ∧ wx = w1)
    case first =>
      clear hC S0 S1 S2 S3
      cases h1 : (t.ac == 0)
      all_goals
        go_wp2_with fail
        go_meet
        exact ⟨by simp [h1], rfl⟩
    case rest =>
    obtain ⟨rfl, hwc⟩ := hcut
    have hwc := hwc.symm
    subst hwc
    go_upto_if 18 with fail
    go_cut [5] (fun s wx => ∃ (A : Option Addr) (c : Nat) (l : List Int), s = .slice A l.length c ∧ Hid (l.length = hinN t 1) ∧ Hid (OwnR intE wx w1.heap.size (.slice A l.length c) l) ∧ Below w1.heap.size w1 wx)
    case first =>
      cases hb : (t.ac == 0 && t.ina == 0)
      · rw [hb] at S0
        go_wp2_with fail
        go_meet
        exact ⟨none, 0, [], rfl, by show _ = _; rw [S0.out]; simp, OwnR.nil, Below.refl _ _⟩
      · rw [hb] at S0
        go_wp2_with (at_builtin; refine wpList_ownR intE rfl (.tmp 19) (.tmp 20) _ rfl rfl _ w1.heap.size (by simp; try omega) none 0 0 [] rfl OwnR.nil (some ⟨w1.heap.size, 0, none⟩) 1 1 [1] rfl (SR.of_blk (E := intE) (l := [1]) (t := 3) (Blk.new_ (by simp) rfl)) (by simp) (by simp) rfl rfl ?_; intro A5 c5 w5 hO5 hb5 hg5)
        go_meet
        exact ⟨A5, c5, [] ++ [1], by simp, by show _ = _; rw [S0.out]; simp, hO5, (by repeat' (first | with_reducible exact Below.refl _ _ | with_reducible assumption | with_reducible apply Below.drew | with_reducible apply below_drewN | with_reducible apply Below.alloc | with_reducible apply Below.setCell | (with_reducible refine Below.trans ?_ (Below.mono (by assumption) ?_)) | (simp; done) | (simp; omega) | omega | with_reducible apply le_size_alloc | with_reducible apply le_size_drewN | with_reducible apply le_size_drew | with_reducible apply le_size_setCell | refine Nat.le_trans ?_ (Below.size (by assumption))))⟩
    case rest =>
    skip
    obtain ⟨A, c, l, rfl, HN, HO, hbc⟩ := hcut
    have zc := hbc.size
    have hl4 : l.length ≤ 4 := by rw [HN.out]; exact hinN_le t _
    have kBc := kB.below_ hbc z1
    have e6 := kBc.cell_ 6; have e7 := kBc.cell_ 7; have e10 := kBc.cell_ 10; have e11 := kBc.cell_ 11; have e13 := kBc.cell_ 13; have e14 := kBc.cell_ 14
    simp at e6 e7 e10 e11 e13 e14
    have y1 := kBc.lt
    go_upto_if 26 with fail
    go_cut [5] (fun s wx => ∃ (A : Option Addr) (c : Nat) (l : List Int), s = .slice A l.length c ∧ Hid (l.length = hinN t 2) ∧ Hid (OwnR intE wx w1.heap.size (.slice A l.length c) l) ∧ Below w1.heap.size w1 wx)
    case first =>
      cases hb : (t.wr == t.cp)
      · rw [hb] at S1
        go_wp2_with fail
        go_meet
        exact ⟨A, c, l, rfl, by show _ = _; rw [S1.out]; simp; exact HN.out, HO.out, hbc⟩
      · rw [hb] at S1
        go_wp2_with (at_builtin; refine wpList_ownR intE rfl (.tmp 27) (.tmp 28) _ rfl rfl _ w1.heap.size (by simp; try omega) A c l.length l rfl (HO.out.ext (by repeat' (first | with_reducible exact Below.refl _ _ | with_reducible assumption | with_reducible apply Below.drew | with_reducible apply below_drewN | with_reducible apply Below.alloc | with_reducible apply Below.setCell | (with_reducible refine Below.trans ?_ (Below.mono (by assumption) ?_)) | (simp; done) | (simp; omega) | omega | with_reducible apply le_size_alloc | with_reducible apply le_size_drewN | with_reducible apply le_size_drew | with_reducible apply le_size_setCell | refine Nat.le_trans ?_ (Below.size (by assumption))))) (some ⟨wc.heap.size, 0, none⟩) 1 1 [2] rfl (SR.of_blk (E := intE) (l := [2]) (t := 3) (Blk.new_ (by simp) rfl)) (by simp) (by simp; try omega) rfl rfl ?_; intro A5 c5 w5 hO5 hb5 hg5)
        go_meet
        exact ⟨A5, c5, l ++ [2], by simp, by show _ = _; rw [S1.out]; simp; exact HN.out, hO5, (by repeat' (first | with_reducible exact Below.refl _ _ | with_reducible assumption | with_reducible apply Below.drew | with_reducible apply below_drewN | with_reducible apply Below.alloc | with_reducible apply Below.setCell | (with_reducible refine Below.trans ?_ (Below.mono (by assumption) ?_)) | (simp; done) | (simp; omega) | omega | with_reducible apply le_size_alloc | with_reducible apply le_size_drewN | with_reducible apply le_size_drew | with_reducible apply le_size_setCell | refine Nat.le_trans ?_ (Below.size (by assumption))))⟩
    case rest =>
    clear HN HO hbc
    obtain ⟨A, c, l, rfl, HN, HO, hbc⟩ := hcut
    have zc := hbc.size
    have hl4 : l.length ≤ 4 := by rw [HN.out]; exact hinN_le t _
    have kBc := kB.below_ hbc z1
    have e6 := kBc.cell_ 6; have e7 := kBc.cell_ 7; have e10 := kBc.cell_ 10; have e11 := kBc.cell_ 11; have e13 := kBc.cell_ 13; have e14 := kBc.cell_ 14
    simp at e6 e7 e10 e11 e13 e14
    have y1 := kBc.lt
    go_upto_if 32 with fail
    go_cut [5] (fun s wx => ∃ (A : Option Addr) (c : Nat) (l : List Int), s = .slice A l.length c ∧ Hid (l.length = hinN t 3) ∧ Hid (OwnR intE wx w1.heap.size (.slice A l.length c) l) ∧ Below w1.heap.size w1 wx)
    case first =>
      cases hb : (t.rm == 0)
      · rw [hb] at S2
        go_wp2_with fail
        go_meet
        exact ⟨A, c, l, rfl, by show _ = _; rw [S2.out]; simp; exact HN.out, HO.out, hbc⟩
      · rw [hb] at S2
        go_wp2_with (at_builtin; refine wpList_ownR intE rfl (.tmp 33) (.tmp 34) _ rfl rfl _ w1.heap.size (by simp; try omega) A c l.length l rfl (HO.out.ext (by repeat' (first | with_reducible exact Below.refl _ _ | with_reducible assumption | with_reducible apply Below.drew | with_reducible apply below_drewN | with_reducible apply Below.alloc | with_reducible apply Below.setCell | (with_reducible refine Below.trans ?_ (Below.mono (by assumption) ?_)) | (simp; done) | (simp; omega) | omega | with_reducible apply le_size_alloc | with_reducible apply le_size_drewN | with_reducible apply le_size_drew | with_reducible apply le_size_setCell | refine Nat.le_trans ?_ (Below.size (by assumption))))) (some ⟨wc.heap.size, 0, none⟩) 1 1 [3] rfl (SR.of_blk (E := intE) (l := [3]) (t := 3) (Blk.new_ (by simp) rfl)) (by simp) (by simp; try omega) rfl rfl ?_; intro A5 c5 w5 hO5 hb5 hg5)
        go_meet
        exact ⟨A5, c5, l ++ [3], by simp, by show _ = _; rw [S2.out]; simp; exact HN.out, hO5, (by repeat' (first | with_reducible exact Below.refl _ _ | with_reducible assumption | with_reducible apply Below.drew | with_reducible apply below_drewN | with_reducible apply Below.alloc | with_reducible apply Below.setCell | (with_reducible refine Below.trans ?_ (Below.mono (by assumption) ?_)) | (simp; done) | (simp; omega) | omega | with_reducible apply le_size_alloc | with_reducible apply le_size_drewN | with_reducible apply le_size_drew | with_reducible apply le_size_setCell | refine Nat.le_trans ?_ (Below.size (by assumption))))⟩
    case rest =>
    clear HN HO hbc
    obtain ⟨A, c, l, rfl, HN, HO, hbc⟩ := hcut
    have zc := hbc.size
    have hl4 : l.length ≤ 4 := by rw [HN.out]; exact hinN_le t _
    have kBc := kB.below_ hbc z1
    have e6 := kBc.cell_ 6; have e7 := kBc.cell_ 7; have e10 := kBc.cell_ 10; have e11 := kBc.cell_ 11; have e13 := kBc.cell_ 13; have e14 := kBc.cell_ 14
    simp at e6 e7 e10 e11 e13 e14
    have y1 := kBc.lt
    go_upto_if 38 with fail
    go_cut [5] (fun s wx => ∃ (A : Option Addr) (c : Nat) (l : List Int), s = .slice A l.length c ∧ Hid (l.length = hinN t 4) ∧ Hid (OwnR intE wx w1.heap.size (.slice A l.length c) l) ∧ Below w1.heap.size w1 wx)
    case first =>
      cases hb : (t.sl == 0)
      · rw [hb] at S3
        go_wp2_with fail
        go_meet
        exact ⟨A, c, l, rfl, by show _ = _; rw [S3.out]; simp; exact HN.out, HO.out, hbc⟩
      · rw [hb] at S3
        go_wp2_with (at_builtin; refine wpList_ownR intE rfl (.tmp 39) (.tmp 40) _ rfl rfl _ w1.heap.size (by simp; try omega) A c l.length l rfl (HO.out.ext (by repeat' (first | with_reducible exact Below.refl _ _ | with_reducible assumption | with_reducible apply Below.drew | with_reducible apply below_drewN | with_reducible apply Below.alloc | with_reducible apply Below.setCell | (with_reducible refine Below.trans ?_ (Below.mono (by assumption) ?_)) | (simp; done) | (simp; omega) | omega | with_reducible apply le_size_alloc | with_reducible apply le_size_drewN | with_reducible apply le_size_drew | with_reducible apply le_size_setCell | refine Nat.le_trans ?_ (Below.size (by assumption))))) (some ⟨wc.heap.size, 0, none⟩) 1 1 [4] rfl (SR.of_blk (E := intE) (l := [4]) (t := 3) (Blk.new_ (by simp) rfl)) (by simp) (by simp; try omega) rfl rfl ?_; intro A5 c5 w5 hO5 hb5 hg5)
        go_meet
        exact ⟨A5, c5, l ++ [4], by simp, by show _ = _; rw [S3.out]; simp; exact HN.out, hO5, (by repeat' (first | with_reducible exact Below.refl _ _ | with_reducible assumption | with_reducible apply Below.drew | with_reducible apply below_drewN | with_reducible apply Below.alloc | with_reducible apply Below.setCell | (with_reducible refine Below.trans ?_ (Below.mono (by assumption) ?_)) | (simp; done) | (simp; omega) | omega | with_reducible apply le_size_alloc | with_reducible apply le_size_drewN | with_reducible apply le_size_drew | with_reducible apply le_size_setCell | refine Nat.le_trans ?_ (Below.size (by assumption))))⟩
    case rest =>
    clear HN HO hbc
    obtain ⟨A, c, l, rfl, HN, HO, hbc⟩ := hcut
    have zc := hbc.size
    have hl4 : l.length ≤ 4 := by rw [HN.out]; exact hinN_le t _
    have kBc := kB.below_ hbc z1
    have e6 := kBc.cell_ 6; have e7 := kBc.cell_ 7; have e10 := kBc.cell_ 10; have e11 := kBc.cell_ 11; have e13 := kBc.cell_ 13; have e14 := kBc.cell_ 14
    simp at e6 e7 e10 e11 e13 e14
    have y1 := kBc.lt
    go_wp2
    refine bodyPost_ret (v := .tuple #[.slice A l.length c, .int .i64 0]) (by simp [results, Tryz.results133, go_sem]) rfl ?_
    exact ⟨⟨A, c, by rw [HN.out]⟩, (by repeat' (first | with_reducible exact Below.refl _ _ | with_reducible assumption | with_reducible apply Below.drew | with_reducible apply below_drewN | with_reducible apply Below.alloc | with_reducible apply Below.setCell | (with_reducible refine Below.trans ?_ (Below.mono (by assumption) ?_)) | (simp; done) | (simp; omega) | omega | with_reducible apply le_size_alloc | with_reducible apply le_size_drewN | with_reducible apply le_size_drew | with_reducible apply le_size_setCell | refine Nat.le_trans ?_ (Below.size (by assumption))))⟩
  · have e0 : hinE t = 0 := if_neg h0
    rw [e0]
    generalize chkT t = z at *
    have hb : (z != 0) = true := by simpa using h0
    unfold tlC at *
    clear h0 e0
    go_enter Tryz.func133, Tryz.ntmps133
    go_wp2_with fail
    refine (hC _).mono ?_
    rintro e w1 ⟨rfl, hb1⟩
    go_wp2
    refine bodyPost_ret (v := .tuple #[.slice none 0 0, .int .i64 z]) (by simp [results, Tryz.results133, go_sem]) rfl ?_
    exact ⟨⟨none, 0, rfl⟩, (by repeat' (first | with_reducible exact Below.refl _ _ | with_reducible assumption | with_reducible apply Below.drew | with_reducible apply below_drewN | with_reducible apply Below.alloc | with_reducible apply Below.setCell | (with_reducible refine Below.trans ?_ (Below.mono (by assumption) ?_)) | (simp; done) | (simp; omega) | omega | with_reducible apply le_size_alloc | with_reducible apply le_size_drewN | with_reducible apply le_size_drew | with_reducible apply le_size_setCell | refine Nat.le_trans ?_ (Below.size (by assumption))))⟩

set_option maxRecDepth 100000 in
set_option maxHeartbeats 4000000 in
theorem rmay_any (t : TL) (w : World) : Calls Tryz.prog 119 #[.agg (tlC t)] w fun e w' => e = .returned (.bool (hinE t == 0)) ∧ Below w.heap.size w w' := by
  have hH := rHinders33_any t
  generalize hinE t = n at *
  generalize chkT t = z at *
  have HV : Hid ((n == 0) = ((n : Int) == 0)) := by
    show _ = _
    cases n with
    | zero => rfl
    | succ n => rw [beq_eq_false_iff_ne.2 (by omega), beq_eq_false_iff_ne.2 (by omega)]
  unfold tlC at *
  go_enter Tryz.func119, Tryz.ntmps119
  go_wp2_with fail
  refine (hH _).mono ?_
  rintro e w1 ⟨⟨A, c, rfl⟩, hb1⟩
  go_wp2
  refine bodyPost_ret (v := .bool ((n : Int) == 0)) (by simp [results, Tryz.results119, go_sem]) rfl ?_
  exact ⟨by rw [HV.out], (by repeat' (first | with_reducible exact Below.refl _ _ | with_reducible assumption | with_reducible apply Below.drew | with_reducible apply below_drewN | with_reducible apply Below.alloc | with_reducible apply Below.setCell | (with_reducible refine Below.trans ?_ (Below.mono (by assumption) ?_)) | (simp; done) | (simp; omega) | omega | with_reducible apply le_size_alloc | with_reducible apply le_size_drewN | with_reducible apply le_size_drew | with_reducible apply le_size_setCell | refine Nat.le_trans ?_ (Below.size (by assumption))))⟩
set_option maxRecDepth 100000 in
set_option maxHeartbeats 4000000 in
theorem rdirect_any (t : TL) (h0 : chkT t = 0) (w : World) : Calls Tryz.prog 101 #[.agg (tlC t)] w fun e w' => e = .returned (.int .i64 (dirT t)) ∧ Below w.heap.size w w' := by
  have hM := rmay_any t
  have e1 : (hinE t == 0) = wrtB t := by unfold hinE wrtB; rw [if_pos h0]
  rw [e1] at hM
  have hd : dirT t = dirB (decide (0 < t.ob)) (wrtB t) (decide (0 < t.wr) || decide (0 < t.orp)) := rfl
  obtain ⟨d, hdd⟩ : ∃ d, dirT t = d := ⟨_, rfl⟩
  rw [hdd] at hd ⊢
  generalize wrtB t = b2 at *
  clear e1 h0 hdd
  unfold tlC at *
  by_cases k1 : 0 < t.ob
  · obtain rfl : d = 1 := by rw [hd]; simp [dirB, k1]
    clear hd hM
    go_enter Tryz.func101, Tryz.ntmps101
    go_wp2
    refine bodyPost_ret (v := .int .i64 1) (by simp [results, Tryz.results101, go_sem]) rfl ?_
    exact ⟨rfl, (by repeat' (first | with_reducible exact Below.refl _ _ | with_reducible assumption | with_reducible apply Below.drew | with_reducible apply below_drewN | with_reducible apply Below.alloc | with_reducible apply Below.setCell | (with_reducible refine Below.trans ?_ (Below.mono (by assumption) ?_)) | (simp; done) | (simp; omega) | omega | with_reducible apply le_size_alloc | with_reducible apply le_size_drewN | with_reducible apply le_size_drew | with_reducible apply le_size_setCell | refine Nat.le_trans ?_ (Below.size (by assumption))))⟩
  · cases b2 with
    | true =>
      obtain rfl : d = 4 := by rw [hd]; simp [dirB, k1]
      clear hd
      go_enter Tryz.func101, Tryz.ntmps101
      go_wp2_with fail
      refine (hM _).mono ?_
      rintro e w1 ⟨rfl, hb1⟩
      go_wp2
      refine bodyPost_ret (v := .int .i64 4) (by simp [results, Tryz.results101, go_sem]) rfl ?_
      exact ⟨rfl, (by repeat' (first | with_reducible exact Below.refl _ _ | with_reducible assumption | with_reducible apply Below.drew | with_reducible apply below_drewN | with_reducible apply Below.alloc | with_reducible apply Below.setCell | (with_reducible refine Below.trans ?_ (Below.mono (by assumption) ?_)) | (simp; done) | (simp; omega) | omega | with_reducible apply le_size_alloc | with_reducible apply le_size_drewN | with_reducible apply le_size_drew | with_reducible apply le_size_setCell | refine Nat.le_trans ?_ (Below.size (by assumption))))⟩
    | false =>
      by_cases k3 : 0 < t.wr
      · obtain rfl : d = 5 := by rw [hd]; simp [dirB, k1, k3]
        clear hd
        go_enter Tryz.func101, Tryz.ntmps101
        go_wp2_with fail
        refine (hM _).mono ?_
        rintro e w1 ⟨rfl, hb1⟩
        have kB : Blk w1 w.heap.size 44 #[.int .i64 t.fr, .int .i64 t.mn, .int .i64 t.lw, .int .i64 t.hi, .bool t.aw, .int .i64 t.ob, .int .i64 t.ac, .int .i64 t.ina, .int .i64 t.tg, .bool t.rf, .int .i64 t.wr, .int .i64 t.cp, .int .i64 t.orp, .int .i64 t.rm, .int .i64 t.sl] := (Blk.new_ rfl rfl).below_ hb1 (by simp)
        have z1 := kB.lt
        have c10 := kB.cell_ 10; have c12 := kB.cell_ 12
        simp at c10 c12
        go_wp2
        refine bodyPost_ret (v := .int .i64 5) (by simp [results, Tryz.results101, go_sem]) rfl ?_
        exact ⟨rfl, (by repeat' (first | with_reducible exact Below.refl _ _ | with_reducible assumption | with_reducible apply Below.drew | with_reducible apply below_drewN | with_reducible apply Below.alloc | with_reducible apply Below.setCell | (with_reducible refine Below.trans ?_ (Below.mono (by assumption) ?_)) | (simp; done) | (simp; omega) | omega | with_reducible apply le_size_alloc | with_reducible apply le_size_drewN | with_reducible apply le_size_drew | with_reducible apply le_size_setCell | refine Nat.le_trans ?_ (Below.size (by assumption))))⟩
      · by_cases k4 : 0 < t.orp
        · obtain rfl : d = 5 := by rw [hd]; simp [dirB, k1, k3, k4]
          clear hd
          go_enter Tryz.func101, Tryz.ntmps101
          go_wp2_with fail
          refine (hM _).mono ?_
          rintro e w1 ⟨rfl, hb1⟩
          have kB : Blk w1 w.heap.size 44 #[.int .i64 t.fr, .int .i64 t.mn, .int .i64 t.lw, .int .i64 t.hi, .bool t.aw, .int .i64 t.ob, .int .i64 t.ac, .int .i64 t.ina, .int .i64 t.tg, .bool t.rf, .int .i64 t.wr, .int .i64 t.cp, .int .i64 t.orp, .int .i64 t.rm, .int .i64 t.sl] := (Blk.new_ rfl rfl).below_ hb1 (by simp)
          have z1 := kB.lt
          have c10 := kB.cell_ 10; have c12 := kB.cell_ 12
          simp at c10 c12
          go_wp2
          refine bodyPost_ret (v := .int .i64 5) (by simp [results, Tryz.results101, go_sem]) rfl ?_
          exact ⟨rfl, (by repeat' (first | with_reducible exact Below.refl _ _ | with_reducible assumption | with_reducible apply Below.drew | with_reducible apply below_drewN | with_reducible apply Below.alloc | with_reducible apply Below.setCell | (with_reducible refine Below.trans ?_ (Below.mono (by assumption) ?_)) | (simp; done) | (simp; omega) | omega | with_reducible apply le_size_alloc | with_reducible apply le_size_drewN | with_reducible apply le_size_drew | with_reducible apply le_size_setCell | refine Nat.le_trans ?_ (Below.size (by assumption))))⟩
        · obtain rfl : d = 6 := by rw [hd]; simp [dirB, k1, k3, k4]
          clear hd
          go_enter Tryz.func101, Tryz.ntmps101
          go_wp2_with fail
          refine (hM _).mono ?_
          rintro e w1 ⟨rfl, hb1⟩
          have kB : Blk w1 w.heap.size 44 #[.int .i64 t.fr, .int .i64 t.mn, .int .i64 t.lw, .int .i64 t.hi, .bool t.aw, .int .i64 t.ob, .int .i64 t.ac, .int .i64 t.ina, .int .i64 t.tg, .bool t.rf, .int .i64 t.wr, .int .i64 t.cp, .int .i64 t.orp, .int .i64 t.rm, .int .i64 t.sl] := (Blk.new_ rfl rfl).below_ hb1 (by simp)
          have z1 := kB.lt
          have c10 := kB.cell_ 10; have c12 := kB.cell_ 12
          simp at c10 c12
          go_wp2
          refine bodyPost_ret (v := .int .i64 6) (by simp [results, Tryz.results101, go_sem]) rfl ?_
          exact ⟨rfl, (by repeat' (first | with_reducible exact Below.refl _ _ | with_reducible assumption | with_reducible apply Below.drew | with_reducible apply below_drewN | with_reducible apply Below.alloc | with_reducible apply Below.setCell | (with_reducible refine Below.trans ?_ (Below.mono (by assumption) ?_)) | (simp; done) | (simp; omega) | omega | with_reducible apply le_size_alloc | with_reducible apply le_size_drewN | with_reducible apply le_size_drew | with_reducible apply le_size_setCell | refine Nat.le_trans ?_ (Below.size (by assumption))))⟩

set_option maxRecDepth 100000 in
set_option maxHeartbeats 4000000 in
theorem rDirect33_any (t : TL) (w : World) : Calls Tryz.prog 74 #[.agg (tlC t)] w fun e w' => e = .returned (.tuple #[.int .i64 (if chkT t = 0 then dirT t else 0), .int .i64 (chkT t)]) ∧ Below w.heap.size w w' := by
  have hC := rCheck33_any t
  by_cases h0 : chkT t = 0
  · have hD := rdirect_any t h0
    rw [h0] at hC ⊢
    rw [if_pos rfl]
    generalize dirT t = d at *
    clear h0
    unfold tlC at *
    go_enter Tryz.func74, Tryz.ntmps74
    go_wp2_with fail
    refine (hC _).mono ?_
    rintro e w1 ⟨rfl, hb1⟩
    have kB : Blk w1 w.heap.size 44 #[.int .i64 t.fr, .int .i64 t.mn, .int .i64 t.lw, .int .i64 t.hi, .bool t.aw, .int .i64 t.ob, .int .i64 t.ac, .int .i64 t.ina, .int .i64 t.tg, .bool t.rf, .int .i64 t.wr, .int .i64 t.cp, .int .i64 t.orp, .int .i64 t.rm, .int .i64 t.sl] := (Blk.new_ rfl rfl).below_ hb1 (by simp)
    have z1 := kB.lt
    have c0 := kB.cell_ 0
    have c1 := kB.cell_ 1
    have c2 := kB.cell_ 2
    have c3 := kB.cell_ 3
    have c4 := kB.cell_ 4
    have c5 := kB.cell_ 5
    have c6 := kB.cell_ 6
    have c7 := kB.cell_ 7
    have c8 := kB.cell_ 8
    have c9 := kB.cell_ 9
    have c10 := kB.cell_ 10
    have c11 := kB.cell_ 11
    have c12 := kB.cell_ 12
    have c13 := kB.cell_ 13
    have c14 := kB.cell_ 14
    simp at c0 c1 c2 c3 c4 c5 c6 c7 c8 c9 c10 c11 c12 c13 c14
    go_wp2_with fail
    refine (hD _).mono ?_
    rintro e w2 ⟨rfl, hb2⟩
    go_wp2
    refine bodyPost_ret (v := .tuple #[.int .i64 d, .int .i64 0]) (by simp [results, Tryz.results74, go_sem]) rfl ?_
    exact ⟨rfl, (by repeat' (first | with_reducible exact Below.refl _ _ | with_reducible assumption | with_reducible apply Below.drew | with_reducible apply below_drewN | with_reducible apply Below.alloc | with_reducible apply Below.setCell | (with_reducible refine Below.trans ?_ (Below.mono (by assumption) ?_)) | (simp; done) | (simp; omega) | omega | with_reducible apply le_size_alloc | with_reducible apply le_size_drewN | with_reducible apply le_size_drew | with_reducible apply le_size_setCell | refine Nat.le_trans ?_ (Below.size (by assumption))))⟩
  · rw [if_neg h0]
    generalize chkT t = z at *
    have hb : (z != 0) = true := by simpa using h0
    clear h0
    unfold tlC at *
    go_enter Tryz.func74, Tryz.ntmps74
    go_wp2_with fail
    refine (hC _).mono ?_
    rintro e w1 ⟨rfl, hb1⟩
    go_wp2
    refine bodyPost_ret (v := .tuple #[.int .i64 0, .int .i64 z]) (by simp [results, Tryz.results74, go_sem]) rfl ?_
    exact ⟨rfl, (by repeat' (first | with_reducible exact Below.refl _ _ | with_reducible assumption | with_reducible apply Below.drew | with_reducible apply below_drewN | with_reducible apply Below.alloc | with_reducible apply Below.setCell | (with_reducible refine Below.trans ?_ (Below.mono (by assumption) ?_)) | (simp; done) | (simp; omega) | omega | with_reducible apply le_size_alloc | with_reducible apply le_size_drewN | with_reducible apply le_size_drew | with_reducible apply le_size_setCell | refine Nat.le_trans ?_ (Below.size (by assumption))))⟩

set_option maxRecDepth 100000 in
set_option maxHeartbeats 4000000 in
theorem rStuck33_any (t : TL) (w : World) : Calls Tryz.prog 52 #[.agg (tlC t)] w fun e w' => e = .returned (.tuple #[.bool (if chkT t = 0 then dirT t == 6 else false), .int .i64 (chkT t)]) ∧ Below w.heap.size w w' := by
  have hC := rDirect33_any t
  generalize chkT t = z at *
  generalize dirT t = d at *
  unfold tlC at *
  by_cases h0 : z = 0
  · subst h0
    rw [if_pos rfl] at hC ⊢
    go_enter Tryz.func52, Tryz.ntmps52
    go_wp2_with fail
    refine (hC _).mono ?_
    rintro e w1 ⟨rfl, hb1⟩
    go_wp2
    refine bodyPost_ret (v := .tuple #[.bool (d == 6), .int .i64 0]) (by simp [results, Tryz.results52, go_sem]) rfl ?_
    exact ⟨rfl, (by repeat' (first | with_reducible exact Below.refl _ _ | with_reducible assumption | with_reducible apply Below.drew | with_reducible apply below_drewN | with_reducible apply Below.alloc | with_reducible apply Below.setCell | (with_reducible refine Below.trans ?_ (Below.mono (by assumption) ?_)) | (simp; done) | (simp; omega) | omega | with_reducible apply le_size_alloc | with_reducible apply le_size_drewN | with_reducible apply le_size_drew | with_reducible apply le_size_setCell | refine Nat.le_trans ?_ (Below.size (by assumption))))⟩
  · have hb : (z == 0) = false := by simpa using h0
    rw [if_neg h0] at hC ⊢
    clear h0
    go_enter Tryz.func52, Tryz.ntmps52
    go_wp2_with fail
    refine (hC _).mono ?_
    rintro e w1 ⟨rfl, hb1⟩
    go_wp2
    refine bodyPost_ret (v := .tuple #[.bool false, .int .i64 z]) (by simp [results, Tryz.results52, go_sem]) rfl ?_
    exact ⟨rfl, (by repeat' (first | with_reducible exact Below.refl _ _ | with_reducible assumption | with_reducible apply Below.drew | with_reducible apply below_drewN | with_reducible apply Below.alloc | with_reducible apply Below.setCell | (with_reducible refine Below.trans ?_ (Below.mono (by assumption) ?_)) | (simp; done) | (simp; omega) | omega | with_reducible apply le_size_alloc | with_reducible apply le_size_drewN | with_reducible apply le_size_drew | with_reducible apply le_size_setCell | refine Nat.le_trans ?_ (Below.size (by assumption))))⟩

set_option maxRecDepth 100000 in
set_option maxHeartbeats 4000000 in
theorem rAllowed_any (t : TL) (w : World) : Calls Tryz.prog 24 #[.agg (tlC t)] w fun e w' => e = .returned (.tuple #[.bool (allB t), .int .i64 (chkT t)]) ∧ Below w.heap.size w w' := by
  have hC := rStuck33_any t
  unfold allB
  generalize chkT t = z at *
  generalize (dirT t == 6) = d at *
  unfold tlC at *
  by_cases h0 : z = 0
  · subst h0
    rw [if_pos rfl] at hC ⊢
    by_cases h1 : t.fr ≤ t.mn
    all_goals
      have HV : Hid ((d && decide (t.fr ≤ t.mn)) = (if t.fr ≤ t.mn then d else false)) := by show _ = _; simp [h1]
      go_enter Tryz.func24, Tryz.ntmps24
      go_wp2_with fail
      refine (hC _).mono ?_
      rintro e w1 ⟨rfl, hb1⟩
      have kB : Blk w1 w.heap.size 44 #[.int .i64 t.fr, .int .i64 t.mn, .int .i64 t.lw, .int .i64 t.hi, .bool t.aw, .int .i64 t.ob, .int .i64 t.ac, .int .i64 t.ina, .int .i64 t.tg, .bool t.rf, .int .i64 t.wr, .int .i64 t.cp, .int .i64 t.orp, .int .i64 t.rm, .int .i64 t.sl] := (Blk.new_ rfl rfl).below_ hb1 (by simp)
      have z1 := kB.lt
      have c0 := kB.cell_ 0; have c1 := kB.cell_ 1
      simp at c0 c1
      go_wp2
      first
        | (refine bodyPost_ret (v := .tuple #[.bool d, .int .i64 0]) (by simp [results, Tryz.results24, go_sem]) rfl ?_; exact ⟨by rw [HV.out, if_pos (by omega)], (by repeat' (first | with_reducible exact Below.refl _ _ | with_reducible assumption | with_reducible apply Below.drew | with_reducible apply below_drewN | with_reducible apply Below.alloc | with_reducible apply Below.setCell | (with_reducible refine Below.trans ?_ (Below.mono (by assumption) ?_)) | (simp; done) | (simp; omega) | omega | with_reducible apply le_size_alloc | with_reducible apply le_size_drewN | with_reducible apply le_size_drew | with_reducible apply le_size_setCell | refine Nat.le_trans ?_ (Below.size (by assumption))))⟩)
        | (refine bodyPost_ret (v := .tuple #[.bool false, .int .i64 0]) (by simp [results, Tryz.results24, go_sem]) rfl ?_; exact ⟨by rw [HV.out, if_neg (by omega)], (by repeat' (first | with_reducible exact Below.refl _ _ | with_reducible assumption | with_reducible apply Below.drew | with_reducible apply below_drewN | with_reducible apply Below.alloc | with_reducible apply Below.setCell | (with_reducible refine Below.trans ?_ (Below.mono (by assumption) ?_)) | (simp; done) | (simp; omega) | omega | with_reducible apply le_size_alloc | with_reducible apply le_size_drewN | with_reducible apply le_size_drew | with_reducible apply le_size_setCell | refine Nat.le_trans ?_ (Below.size (by assumption))))⟩)
  · have hb : (z != 0) = true := by simpa using h0
    rw [if_neg h0] at hC ⊢
    clear h0
    go_enter Tryz.func24, Tryz.ntmps24
    go_wp2_with fail
    refine (hC _).mono ?_
    rintro e w1 ⟨rfl, hb1⟩
    go_wp2
    refine bodyPost_ret (v := .tuple #[.bool false, .int .i64 z]) (by simp [results, Tryz.results24, go_sem]) rfl ?_
    exact ⟨rfl, (by repeat' (first | with_reducible exact Below.refl _ _ | with_reducible assumption | with_reducible apply Below.drew | with_reducible apply below_drewN | with_reducible apply Below.alloc | with_reducible apply Below.setCell | (with_reducible refine Below.trans ?_ (Below.mono (by assumption) ?_)) | (simp; done) | (simp; omega) | omega | with_reducible apply le_size_alloc | with_reducible apply le_size_drewN | with_reducible apply le_size_drew | with_reducible apply le_size_setCell | refine Nat.le_trans ?_ (Below.size (by assumption))))⟩
end Go.Proofs.YtmbpjafiinfkkaaGreatDoor
