/- Package oom: slices.MaxFunc over candidates; Victim; Ranks. Written by gen_om2.py. -/
import Derived.Test.YtmbpjafiinfkkaaGreatDoorOM
namespace Go.Proofs.YtmbpjafiinfkkaaGreatDoor
set_option linter.unusedSimpArgs false
set_option linter.unusedVariables false
open Go.RowKit Go.Maps

/-- m is one of l, and none of l goes ahead of it. -/
def Top (m : C2) (l : List C2) : Prop := m ∈ l ∧ ∀ y ∈ l, ltC y m = false
theorem Top.stay {m y : C2} {l : List C2} (h : Top m l) (hy : ltC y m = false) : Top m (l ++ [y]) :=
  ⟨List.mem_append_left _ h.1, fun z hz => by
    rcases List.mem_append.1 hz with h1 | h1
    · exact h.2 z h1
    · simp at h1; subst h1; exact hy⟩
theorem Top.turn {m y : C2} {l : List C2} (h : Top m l) (hy : ltC y m = true) : Top y (l ++ [y]) :=
  ⟨by simp, fun z hz => by
    rcases List.mem_append.1 hz with h1 | h1
    · cases h2 : ltC z y with
      | false => rfl
      | true =>
        have := swoC.trans _ _ _ h2 hy
        rw [h.2 z h1] at this
        cases this
    · simp at h1; subst h1; exact swoC.irrefl _⟩

set_option maxRecDepth 100000 in
set_option maxHeartbeats 8000000 in
theorem MaxFunc_any (A : Option Addr) (c : Nat) (l : List C2) (w : World) (hs : SR canE w A l) (h1 : 1 ≤ l.length) (ll : l.length ≤ 1000) :
    Calls Tryz.prog 42 #[.slice A l.length c, .func (.func 44) #[] #[]] w fun e w' => (∃ m : C2, e = .returned (.agg #[.int .i64 m.1, .int .i64 m.2]) ∧ Top m l) ∧ Below w.heap.size w w' := by
  obtain ⟨b, off, x, rfl, hbl, hx, hc0, hc1⟩ := can_at hs (show 0 < l.length by omega)
  simp only [Nat.zero_mul, Nat.add_zero] at hc0 hc1
  have HS := Lib.hid hs
  have hT1 : Top x (l.take 1) := by
    have : l.take 1 = [x] := by have := take_snocG hx; simpa using this
    rw [this]
    exact ⟨by simp, fun y hy => by simp at hy; subst hy; exact swoC.irrefl _⟩
  have HT1 := Lib.hid hT1
  clear hT1 hs hx
  have i0 : (0 : Int) < l.length := by omega
  have i1 : ¬ (l.length : Int) < 1 := by omega
  go_enter Tryz.func42, Tryz.ntmps42
  obtain ⟨V, hV⟩ : ∃ V, (w.alloc (.cells #[.int .i64 0, .int .i64 0] 73)).alloc (.cells #[.int .i64 x.1, .int .i64 x.2] 73) = V := ⟨_, rfl⟩
  have BV : Below w.heap.size w V := by rw [← hV]; exact (by repeat' (first | with_reducible exact Below.refl _ _ | with_reducible assumption | with_reducible apply Below.drew | with_reducible apply below_drewN | with_reducible apply Below.alloc | with_reducible apply Below.setCell | (with_reducible refine Below.trans ?_ (Below.mono (by assumption) ?_)) | (simp; done) | (simp; omega) | omega | with_reducible apply le_size_alloc | with_reducible apply le_size_drewN | with_reducible apply le_size_drew | with_reducible apply le_size_setCell | refine Nat.le_trans ?_ (Below.size (by assumption))))
  have kR0 : Blk V w.heap.size 73 #[.int .i64 0, .int .i64 0] := by rw [← hV]; exact (by repeat' (first | with_reducible assumption | (with_reducible refine Blk.new_ ?_ ?_ <;> first | (simp; done) | rfl) | with_reducible apply Blk.drew_ | with_reducible apply Blk.drewN_ | with_reducible apply Blk.alloc_ | with_reducible refine Blk.far_ ?_ ?_ _ | (with_reducible refine Blk.below_ ?_ (by assumption) ?_) | (simp; done) | (simp; omega) | omega | with_reducible apply le_size_alloc | with_reducible apply lt_size_alloc | with_reducible apply le_size_drewN | with_reducible apply le_size_drew | with_reducible apply le_size_setCell | refine Nat.lt_of_lt_of_le ?_ (Below.size (by assumption)) | refine Nat.le_trans ?_ (Below.size (by assumption))))
  have kM0 : Blk V (w.heap.size + 1) 73 #[.int .i64 x.1, .int .i64 x.2] := by rw [← hV]; exact (by repeat' (first | with_reducible assumption | (with_reducible refine Blk.new_ ?_ ?_ <;> first | (simp; done) | rfl) | with_reducible apply Blk.drew_ | with_reducible apply Blk.drewN_ | with_reducible apply Blk.alloc_ | with_reducible refine Blk.far_ ?_ ?_ _ | (with_reducible refine Blk.below_ ?_ (by assumption) ?_) | (simp; done) | (simp; omega) | omega | with_reducible apply le_size_alloc | with_reducible apply lt_size_alloc | with_reducible apply le_size_drewN | with_reducible apply le_size_drew | with_reducible apply le_size_setCell | refine Nat.lt_of_lt_of_le ?_ (Below.size (by assumption)) | refine Nat.le_trans ?_ (Below.size (by assumption))))
  have zV : w.heap.size + 1 < V.heap.size := kM0.lt
  go_wp2
  try rw [hV]
  clear hV
  go_loopw [6] (fun i wr => ∃ (k : Nat) (m : C2), 1 ≤ k ∧ k ≤ l.length ∧ i = .int .i64 k ∧ Blk wr (w.heap.size + 1) 73 #[.int .i64 m.1, .int .i64 m.2] ∧ Blk wr w.heap.size 73 #[.int .i64 0, .int .i64 0] ∧ Hid (Top m (l.take k)) ∧ True ∧ Below w.heap.size w wr) (fun i _ => l.length - (intOf i).toNat)
  case atStart => exact ⟨1, x, by omega, by omega, rfl, kM0, kR0, HT1.out, trivial, BV⟩
  case round =>
    obtain ⟨k, m, hk1, hk, rfl, kM, kR, HTk, _, hbw⟩ := hrel
    have zw : w.heap.size + 1 < wr.heap.size := kM.lt
    by_cases hlt : k < l.length
    · obtain ⟨b', off', y, e', hby, hy, v0, v1⟩ := can_at (HS.out.ext hbw) hlt
      injection e' with e'
      injection e' with e1 e2 e3
      subst e1 e2
      have j0 : (0 : Int) ≤ k := by omega
      have j1 : (k : Int) < l.length := by omega
      have HTS : Hid (l.take (k + 1) = l.take k ++ [y]) := take_snocG hy
      obtain ⟨q, hq⟩ : ∃ q, cmpC y m = q := ⟨_, rfl⟩
      have hcmp : ∀ w, Calls Tryz.prog 44 #[.agg #[.int .i64 y.1, .int .i64 y.2], .agg #[.int .i64 m.1, .int .i64 m.2]] w fun e w' => e = .returned (.int .i64 q) ∧ Below w.heap.size w w' := fun w => by
        have := compareC_any y m w
        rw [hq] at this
        exact this
      have hgt := cmpC_gt y m
      rw [hq] at hgt
      have Y0 : ∀ W : World, Below wr.heap.size wr W → W.cell? ⟨b, off + k * 2, none⟩ = some (.int .i64 y.1) := fun W h => cell_keep h v0 hby
      have Y1 : ∀ W : World, Below wr.heap.size wr W → W.cell? ⟨b, off + k * 2 + 1, none⟩ = some (.int .i64 y.2) := fun W h => cell_keep h v1 hby
      have Z0 : ∀ W : World, Below wr.heap.size wr W → W.cell? ⟨w.heap.size + 1, 0, none⟩ = some (.int .i64 m.1) := fun W h => by simpa using (kM.below_ h kM.lt).cell_ 0
      have Z1 : ∀ W : World, Below wr.heap.size wr W → W.cell? ⟨w.heap.size + 1, 1, none⟩ = some (.int .i64 m.2) := fun W h => by simpa using (kM.below_ h kM.lt).cell_ 1
      by_cases hc : 0 < q
      · have HT : Hid (Top y (l.take (k + 1))) := by show Top _ _; rw [HTS.out]; exact HTk.out.turn (hgt.1 hc)
        have HN : Hid True := trivial
        clear hgt hq HTk hy v0 v1
        go_wp2
        refine wp_region_chain [.is ?f0, .is ?f1, .is ?f2, .is ?f3, .is ?f4, .is ?f5, .is (.int .i64 q), .is ?f7] (by kernel_rfl) (by kernel_rfl) (by kernel_rfl) (lasts_is (lasts_is (lasts_is (lasts_is (lasts_is (lasts_is (lasts_is (lasts_is lasts_nil)))))))) (fun W0 hb0 hz0 => ?_)
        rotate_left 7
        refine chain_is (step_take (by rfl) ?y0) ?r0
        case y0 =>
          intro w hbw hd
          clear hd
          go_simp
          first | done | with_reducible rfl
        (try simp only [Act.put, List.setIfInBounds_toArray, List.set_cons_zero, List.set_cons_succ, List.nil_append, List.cons_append])
        refine chain_is (step_take (by rfl) ?y1) ?r1
        case y1 =>
          intro w hbw hd
          clear hd
          go_simp
          first | done | with_reducible rfl
        (try simp only [Act.put, List.setIfInBounds_toArray, List.set_cons_zero, List.set_cons_succ, List.nil_append, List.cons_append])
        refine chain_is (step_take (by rfl) ?y2) ?r2
        case y2 =>
          intro w hbw hd
          clear hd
          go_simp
          first | done | with_reducible rfl
        (try simp only [Act.put, List.setIfInBounds_toArray, List.set_cons_zero, List.set_cons_succ, List.nil_append, List.cons_append])
        refine chain_is (step_take (by rfl) ?y3) ?r3
        case y3 =>
          intro w hbw hd
          clear hd
          go_simp
          first | done | with_reducible rfl
        (try simp only [Act.put, List.setIfInBounds_toArray, List.set_cons_zero, List.set_cons_succ, List.nil_append, List.cons_append])
        refine chain_is (step_take (by rfl) ?y4) ?r4
        case y4 =>
          intro w hbw hd
          have q0 := Y0 w (hb0.trans (hbw.mono hb0.size))
          have q1 := Y1 w (hb0.trans (hbw.mono hb0.size))
          clear hd
          go_simp
          first | done | with_reducible rfl
        (try simp only [Act.put, List.setIfInBounds_toArray, List.set_cons_zero, List.set_cons_succ, List.nil_append, List.cons_append])
        refine chain_is (step_take (by rfl) ?y5) ?r5
        case y5 =>
          intro w hbw hd
          have q0 := Z0 w (hb0.trans (hbw.mono hb0.size))
          have q1 := Z1 w (hb0.trans (hbw.mono hb0.size))
          clear hd
          go_simp
          first | done | with_reducible rfl
        (try simp only [Act.put, List.setIfInBounds_toArray, List.set_cons_zero, List.set_cons_succ, List.nil_append, List.cons_append])
        refine chain_is ?s6 ?r6
        case s6 =>
          intro w hbw hd K Q' hK
          clear hd
          go_simp
          refine (hcmp _).mono ?_
          rintro e x1 ⟨rfl, hbx⟩
          go_wp2_with fail
          refine hK.out (.int .i64 q) _ _ ?_ ?_ rfl
          · (simp only [Act.put, List.setIfInBounds_toArray, List.set_cons_zero, List.set_cons_succ, List.nil_append, List.cons_append])
          · exact (by repeat' (first | with_reducible exact Below.refl _ _ | with_reducible assumption | with_reducible apply Below.drew | with_reducible apply below_drewN | with_reducible apply Below.alloc | with_reducible apply Below.setCell | (with_reducible refine Below.trans ?_ (Below.mono (by assumption) ?_)) | (simp; done) | (simp; omega) | omega | with_reducible apply le_size_alloc | with_reducible apply le_size_drewN | with_reducible apply le_size_drew | with_reducible apply le_size_setCell | with_reducible refine Nat.le_trans ?_ (Below.size (by assumption))))
        (try simp only [Act.put, List.setIfInBounds_toArray, List.set_cons_zero, List.set_cons_succ, List.nil_append, List.cons_append])
        refine chain_is (step_take (by rfl) ?y7) ?r7
        case y7 =>
          intro w hbw hd
          clear hd
          go_simp
          first | done | with_reducible rfl
        (try simp only [Act.put, List.setIfInBounds_toArray, List.set_cons_zero, List.set_cons_succ, List.nil_append, List.cons_append])
        refine chain_end (fun wz hbz hd => ?_)
        have hbW : Below wr.heap.size wr wz := hb0.trans (hbz.mono hb0.size)
        have zW := hbW.size
        have kMz := kM.below_ hbW kM.lt
        have kRz := kR.below_ hbW kR.lt
        have r0 := kMz.frozen_ 0; have r1 := kMz.frozen_ 1
        have c0 := Y0 wz hbW; have c1 := Y1 wz hbW
        go_wp2
        go_roundw
        case rel =>
          refine ⟨k + 1, y, by omega, by omega, by go_num, ?_, ?_, HT.out, HN.out, (by repeat' (first | with_reducible exact Below.refl _ _ | with_reducible assumption | with_reducible apply Below.drew | with_reducible apply below_drewN | with_reducible apply Below.alloc | with_reducible apply Below.setCell | (with_reducible refine Below.trans ?_ (Below.mono (by assumption) ?_)) | (simp; done) | (simp; omega) | omega | with_reducible apply le_size_alloc | with_reducible apply le_size_drewN | with_reducible apply le_size_drew | with_reducible apply le_size_setCell | refine Nat.le_trans ?_ (Below.size (by assumption))))⟩
          · simpa using ((kMz.set_ 0 (.int .i64 y.1)).set_ 1 (.int .i64 y.2))
          · exact (kRz.far_ (by simp) _).far_ (by simp) _
        case measure => simp [intOf]; omega

      · have HT : Hid (Top m (l.take (k + 1))) := by
          show Top _ _; rw [HTS.out]
          refine HTk.out.stay ?_
          cases h : ltC y m with
          | false => rfl
          | true => exact absurd (hgt.2 h) hc
        have HN : Hid True := trivial
        clear hgt hq HTk hy v0 v1
        go_wp2
        refine wp_region_chain [.is ?ff0, .is ?ff1, .is ?ff2, .is ?ff3, .is ?ff4, .is ?ff5, .is (.int .i64 q), .is ?ff7] (by kernel_rfl) (by kernel_rfl) (by kernel_rfl) (lasts_is (lasts_is (lasts_is (lasts_is (lasts_is (lasts_is (lasts_is (lasts_is lasts_nil)))))))) (fun W0 hb0 hz0 => ?_)
        rotate_left 7
        refine chain_is (step_take (by rfl) ?yf0) ?rf0
        case yf0 =>
          intro w hbw hd
          clear hd
          go_simp
          first | done | with_reducible rfl
        (try simp only [Act.put, List.setIfInBounds_toArray, List.set_cons_zero, List.set_cons_succ, List.nil_append, List.cons_append])
        refine chain_is (step_take (by rfl) ?yf1) ?rf1
        case yf1 =>
          intro w hbw hd
          clear hd
          go_simp
          first | done | with_reducible rfl
        (try simp only [Act.put, List.setIfInBounds_toArray, List.set_cons_zero, List.set_cons_succ, List.nil_append, List.cons_append])
        refine chain_is (step_take (by rfl) ?yf2) ?rf2
        case yf2 =>
          intro w hbw hd
          clear hd
          go_simp
          first | done | with_reducible rfl
        (try simp only [Act.put, List.setIfInBounds_toArray, List.set_cons_zero, List.set_cons_succ, List.nil_append, List.cons_append])
        refine chain_is (step_take (by rfl) ?yf3) ?rf3
        case yf3 =>
          intro w hbw hd
          clear hd
          go_simp
          first | done | with_reducible rfl
        (try simp only [Act.put, List.setIfInBounds_toArray, List.set_cons_zero, List.set_cons_succ, List.nil_append, List.cons_append])
        refine chain_is (step_take (by rfl) ?yf4) ?rf4
        case yf4 =>
          intro w hbw hd
          have q0 := Y0 w (hb0.trans (hbw.mono hb0.size))
          have q1 := Y1 w (hb0.trans (hbw.mono hb0.size))
          clear hd
          go_simp
          first | done | with_reducible rfl
        (try simp only [Act.put, List.setIfInBounds_toArray, List.set_cons_zero, List.set_cons_succ, List.nil_append, List.cons_append])
        refine chain_is (step_take (by rfl) ?yf5) ?rf5
        case yf5 =>
          intro w hbw hd
          have q0 := Z0 w (hb0.trans (hbw.mono hb0.size))
          have q1 := Z1 w (hb0.trans (hbw.mono hb0.size))
          clear hd
          go_simp
          first | done | with_reducible rfl
        (try simp only [Act.put, List.setIfInBounds_toArray, List.set_cons_zero, List.set_cons_succ, List.nil_append, List.cons_append])
        refine chain_is ?sf6 ?rf6
        case sf6 =>
          intro w hbw hd K Q' hK
          clear hd
          go_simp
          refine (hcmp _).mono ?_
          rintro e x1 ⟨rfl, hbx⟩
          go_wp2_with fail
          refine hK.out (.int .i64 q) _ _ ?_ ?_ rfl
          · (simp only [Act.put, List.setIfInBounds_toArray, List.set_cons_zero, List.set_cons_succ, List.nil_append, List.cons_append])
          · exact (by repeat' (first | with_reducible exact Below.refl _ _ | with_reducible assumption | with_reducible apply Below.drew | with_reducible apply below_drewN | with_reducible apply Below.alloc | with_reducible apply Below.setCell | (with_reducible refine Below.trans ?_ (Below.mono (by assumption) ?_)) | (simp; done) | (simp; omega) | omega | with_reducible apply le_size_alloc | with_reducible apply le_size_drewN | with_reducible apply le_size_drew | with_reducible apply le_size_setCell | with_reducible refine Nat.le_trans ?_ (Below.size (by assumption))))
        (try simp only [Act.put, List.setIfInBounds_toArray, List.set_cons_zero, List.set_cons_succ, List.nil_append, List.cons_append])
        refine chain_is (step_take (by rfl) ?yf7) ?rf7
        case yf7 =>
          intro w hbw hd
          clear hd
          go_simp
          first | done | with_reducible rfl
        (try simp only [Act.put, List.setIfInBounds_toArray, List.set_cons_zero, List.set_cons_succ, List.nil_append, List.cons_append])
        refine chain_end (fun wz hbz hd => ?_)
        have hbW : Below wr.heap.size wr wz := hb0.trans (hbz.mono hb0.size)
        have zW := hbW.size
        have kMz := kM.below_ hbW kM.lt
        have kRz := kR.below_ hbW kR.lt
        go_wp2
        go_roundw
        case rel => exact ⟨k + 1, m, by omega, by omega, by go_num, kMz, kRz, HT.out, HN.out, (by repeat' (first | with_reducible exact Below.refl _ _ | with_reducible assumption | with_reducible apply Below.drew | with_reducible apply below_drewN | with_reducible apply Below.alloc | with_reducible apply Below.setCell | (with_reducible refine Below.trans ?_ (Below.mono (by assumption) ?_)) | (simp; done) | (simp; omega) | omega | with_reducible apply le_size_alloc | with_reducible apply le_size_drewN | with_reducible apply le_size_drew | with_reducible apply le_size_setCell | refine Nat.le_trans ?_ (Below.size (by assumption))))⟩
        case measure => simp [intOf]; omega

    · obtain rfl : k = l.length := by omega
      have HT : Hid (Top m l) := by have := HTk.out; rwa [List.take_length] at this
      have k' : Blk ((wr.setCell ⟨w.heap.size, 0, none⟩ (.int .i64 m.1)).setCell ⟨w.heap.size, 1, none⟩ (.int .i64 m.2)) _ _ _ := (kR.set_ 0 (.int .i64 m.1)).set_ 1 (.int .i64 m.2)
      have t0 := k'.cell_ 0; have t1 := k'.cell_ 1
      simp at t0 t1
      have q0 := kM.cell_ 0; have q1 := kM.cell_ 1
      simp at q0 q1
      have r0 := kR.frozen_ 0; have r1 := kR.frozen_ 1
      have x0 := kR.cell_ 0; have x1 := kR.cell_ 1
      simp at x0 x1
      have y0 := kR.lt
      clear k' HTk hlt
      go_wp2
      refine bodyPost_ret (v := .agg #[.int .i64 m.1, .int .i64 m.2]) (by simp [results, Tryz.results42, go_sem, t0, t1]) rfl ?_
      exact ⟨⟨m, rfl, HT.out⟩, (by repeat' (first | with_reducible exact Below.refl _ _ | with_reducible assumption | with_reducible apply Below.drew | with_reducible apply below_drewN | with_reducible apply Below.alloc | with_reducible apply Below.setCell | (with_reducible refine Below.trans ?_ (Below.mono (by assumption) ?_)) | (simp; done) | (simp; omega) | omega | with_reducible apply le_size_alloc | with_reducible apply le_size_drewN | with_reducible apply le_size_drew | with_reducible apply le_size_setCell | refine Nat.le_trans ?_ (Below.size (by assumption))))⟩

/-- What Ranks hands back. -/
def RnkPost (l : List PV) (sp : List Int) (w : World) (e : Ending) (w' : World) : Prop :=
  (∃ A c, e = .returned (.tuple #[.slice A (if rnkE l sp = 0 then (rnkL l sp).length else 0) c, .int .i64 (rnkE l sp)]) ∧ (rnkE l sp = 0 → Sl w' (.int .i64) A (rnkL l sp))) ∧ Below w.heap.size w w'
theorem vic_some {l : List PV} {sp : List Int} (h0 : rnkE l sp = 0) {m : C2} (h : Top m (candL l sp)) : vicE l sp = 0 ∧ vicI l sp = m.1 := by
  have h1 := srtC_head h.1 h.2
  have h2 : (rnkL l sp)[0]? = some m.1 := by unfold rnkL; rw [List.getElem?_map, h1]; rfl
  unfold vicE vicI
  rw [if_pos h0, if_pos h0]
  cases hr : rnkL l sp with
  | nil => rw [hr] at h2; cases h2
  | cons a t =>
    rw [hr] at h2
    simp at h2
    subst h2
    exact ⟨by simp, rfl⟩
theorem vic_none {l : List PV} {sp : List Int} (h0 : rnkE l sp = 0) (h : candL l sp = []) : vicE l sp = 6 ∧ vicI l sp = 0 := by
  have h2 : rnkL l sp = [] := by unfold rnkL; rw [h]; simp [srtC]
  unfold vicE vicI
  rw [if_pos h0, if_pos h0, h2]
  exact ⟨by simp, rfl⟩
theorem fldC (a b : Value) (w : World) : (Instr.field 73 (.agg #[a, b]) 0).run Tryz.prog w = .ok a w := by kernel_rfl
theorem rnkE_ok {l : List PV} {sp : List Int} (h : rnkE l sp = 0) : 1 ≤ l.length ∧ l.length ≤ 8 := by
  unfold rnkE at h
  by_cases h0 : scrE l = 0
  · exact scrE_ok h0
  · rw [if_neg h0] at h; exact absurd h h0

set_option maxRecDepth 100000 in
set_option maxHeartbeats 4000000 in
theorem Victim_any (A : Option Addr) (c : Nat) (l : List PV) (B : Option Addr) (d : Nat) (sp : List Int) (w : World) (hal : AL w) (hs : SR procE w A l) (ll : l.length ≤ 1000) (hp : Sl w (.int .i64) B sp) (lp : sp.length ≤ 1000) :
    Calls Tryz.prog 16 #[.slice A l.length c, .slice B sp.length d] w fun e w' => e = .returned (.tuple #[.int .i64 (vicI l sp), .int .i64 (vicE l sp)]) ∧ Below w.heap.size w w' := by
  have hC := candidates_any A c l B d sp w hal hs ll hp lp
  unfold CanPost at hC
  by_cases h0 : rnkE l sp = 0
  · have hlen := rnkE_ok h0
    have hc8 := candL_len l sp
    have HV := Lib.hid (fun (m : C2) h => vic_some h0 (m := m) h)
    have HW := Lib.hid (fun h => vic_none (l := l) (sp := sp) h0 h)
    rw [h0] at hC
    have HA := Lib.hid (candL_asc l sp)
    have HK := Lib.hid (candL_keys l sp)
    have HM := Lib.hid (candL_mem l sp)
    have HQ := Lib.hid (candL_key_mem l sp)
    generalize candL l sp = L at *
    generalize candF l sp l.length = m at *
    generalize vicI l sp = vi at *
    generalize vicE l sp = ve at *
    have hfl := fldC
    clear h0 hs hp
    go_enter Tryz.func16, Tryz.ntmps16
    go_wp2_with fail
    refine hC.mono ?_
    rintro e w1 ⟨⟨mb, rfl, hmb⟩, hb1⟩
    obtain ⟨Bm, rfl, hB1, hM⟩ := hmb (by simp)
    clear hmb hC
    have z1 := hb1.size
    have hlen2 := fun ty => hM.len HK.out HQ.out ty
    rw [List.length_map] at hlen2
    by_cases hL0 : L.length = 0
    · obtain ⟨rfl, rfl⟩ := HW.out (List.eq_nil_of_length_eq_zero hL0)
      rw [hL0] at hlen2
      clear HV HW HA HK HM HQ hM
      go_wp2
      refine bodyPost_ret (v := .tuple #[.int .i64 0, .int .i64 6]) (by simp [results, Tryz.results16, go_sem]) rfl ?_
      exact ⟨rfl, (by repeat' (first | with_reducible exact Below.refl _ _ | with_reducible assumption | with_reducible apply Below.drew | with_reducible apply below_drewN | with_reducible apply Below.alloc | with_reducible apply Below.setCell | (with_reducible refine Below.trans ?_ (Below.mono (by assumption) ?_)) | (simp; done) | (simp; omega) | omega | with_reducible apply le_size_alloc | with_reducible apply le_size_drewN | with_reducible apply le_size_drew | with_reducible apply le_size_setCell | refine Nat.le_trans ?_ (Below.size (by assumption))))⟩
    · have hb : ((L.length : Int) == 0) = false := by simpa using hL0
      have hLi := listed_any Bm 8 m L w1 hM (by omega) HA.out HM.out (by omega)
      clear HW HA HK HM HQ hM
      go_wp2_with (first
        | (go_at_call 43; refine hLi.mono ?_; rintro e w2 ⟨A2, c2, rfl, hO2, hb2⟩; have z2 := hb2.size; have hM2 := MaxFunc_any A2 c2 L w2 (OwnR.sr hO2).2 (by omega) (by omega))
        | (go_at_call 42; refine hM2.mono ?_; rintro e w3 ⟨⟨m3, rfl, hT3⟩, hb3⟩; have HT3 := Lib.hid hT3; clear hT3))
      refine bodyPost_ret (v := .tuple #[.int .i64 m3.1, .int .i64 0]) (by simp [results, Tryz.results16, go_sem]) rfl ?_
      obtain ⟨rfl, rfl⟩ := HV.out m3 HT3.out
      exact ⟨rfl, (by repeat' (first | with_reducible exact Below.refl _ _ | with_reducible assumption | with_reducible apply Below.drew | with_reducible apply below_drewN | with_reducible apply Below.alloc | with_reducible apply Below.setCell | (with_reducible refine Below.trans ?_ (Below.mono (by assumption) ?_)) | (simp; done) | (simp; omega) | omega | with_reducible apply le_size_alloc | with_reducible apply le_size_drewN | with_reducible apply le_size_drew | with_reducible apply le_size_setCell | refine Nat.le_trans ?_ (Below.size (by assumption))))⟩
  · have e1 : vicE l sp = rnkE l sp := by unfold vicE; rw [if_neg h0]
    have e2 : vicI l sp = 0 := by unfold vicI; rw [if_neg h0]
    rw [e1, e2]
    generalize rnkE l sp = z at *
    have hb : (z != 0) = true := by simpa using h0
    clear e1 e2 h0
    go_enter Tryz.func16, Tryz.ntmps16
    go_wp2_with fail
    refine hC.mono ?_
    rintro e w1 ⟨⟨mb, rfl, _⟩, hb1⟩
    go_wp2
    refine bodyPost_ret (v := .tuple #[.int .i64 0, .int .i64 z]) (by simp [results, Tryz.results16, go_sem]) rfl ?_
    exact ⟨rfl, (by repeat' (first | with_reducible exact Below.refl _ _ | with_reducible assumption | with_reducible apply Below.drew | with_reducible apply below_drewN | with_reducible apply Below.alloc | with_reducible apply Below.setCell | (with_reducible refine Below.trans ?_ (Below.mono (by assumption) ?_)) | (simp; done) | (simp; omega) | omega | with_reducible apply le_size_alloc | with_reducible apply le_size_drewN | with_reducible apply le_size_drew | with_reducible apply le_size_setCell | refine Nat.le_trans ?_ (Below.size (by assumption))))⟩

set_option maxRecDepth 100000 in
set_option maxHeartbeats 4000000 in
theorem Ranks_any (A : Option Addr) (c : Nat) (l : List PV) (B : Option Addr) (d : Nat) (sp : List Int) (w : World) (hal : AL w) (hs : SR procE w A l) (ll : l.length ≤ 1000) (hp : Sl w (.int .i64) B sp) (lp : sp.length ≤ 1000) :
    Calls Tryz.prog 18 #[.slice A l.length c, .slice B sp.length d] w (RnkPost l sp w) := by
  have hC := candidates_any A c l B d sp w hal hs ll hp lp
  unfold CanPost at hC
  by_cases h0 : rnkE l sp = 0
  · have hlen := rnkE_ok h0
    have hc8 := candL_len l sp
    have HP : ∀ (S : List Int) e w' A c, rnkL l sp = S → e = .returned (.tuple #[.slice A S.length c, .int .i64 0]) → Sl w' (.int .i64) A S → Below w.heap.size w w' → RnkPost l sp w e w' := fun S e' w' A' c' hS he hsl hb => by
      unfold RnkPost
      rw [h0, hS]
      exact ⟨⟨A', c', he, fun _ => hsl⟩, hb⟩
    have hr : rnkL l sp = (srtC (candL l sp)).map (·.1) := rfl
    rw [hr] at HP
    rw [h0] at hC
    have HA := Lib.hid (candL_asc l sp)
    have HM := Lib.hid (candL_mem l sp)
    generalize candL l sp = L at *
    generalize candF l sp l.length = m at *
    have hSL := srtC_len L
    clear h0 hs hp hr
    go_enter Tryz.func18, Tryz.ntmps18
    go_wp2_with fail
    refine hC.mono ?_
    rintro e w1 ⟨⟨mb, rfl, hmb⟩, hb1⟩
    obtain ⟨Bm, rfl, hB1, hM⟩ := hmb (by simp)
    clear hmb hC
    have z1 := hb1.size
    have hLi := listed_any Bm 8 m L w1 hM (by omega) HA.out HM.out (by omega)
    clear HA HM hM
    go_wp2_with (first
      | (go_at_call 43; refine hLi.mono ?_; rintro e w2 ⟨A2, c2, rfl, hO2, hb2⟩; have z2 := hb2.size; have hM2 := sortF_own w1.heap.size A2 c2 L w2 hO2 (by omega))
      | (go_at_call 45; refine hM2.mono ?_; rintro e w3 ⟨rfl, hO3, hb3⟩))
    have z3 := hb3.size
    have HR3 := Lib.hid (OwnR.sr hO3).2
    have B3 : Below w.heap.size w w3 := hb1.trans ((hb2.trans hb3).mono z1)
    obtain ⟨S, hS⟩ : ∃ S, srtC L = S := ⟨_, rfl⟩
    rw [hS] at HR3 hSL HP
    obtain ⟨n, hn⟩ : ∃ n, L.length = n := ⟨_, rfl⟩
    rw [hn] at hSL hc8
    have HSL := Lib.hid hSL
    clear hO3 hO2 hLi hM2 hb2 hb3 hS hSL
    rw [hn]
    clear hn
    go_loopw [27, 9] (fun i s wr => ∃ (k : Nat) (A : Option Addr) (c : Nat), k ≤ n ∧ i = .int .i64 k ∧ s = .slice A k c ∧ Hid (OwnR intE wr w3.heap.size (.slice A k c) ((S.take k).map (·.1))) ∧ Below w3.heap.size w3 wr) (fun i _ _ => n - (intOf i).toNat)
    case atStart => exact ⟨0, none, 0, by omega, rfl, rfl, OwnR.nil, Below.refl _ _⟩
    case round =>
      obtain ⟨k, A3, c3, hk, rfl, rfl, HO, hbw⟩ := hrel
      have zw := hbw.size
      by_cases hlt : k < n
      · obtain ⟨b, off, x, rfl, hbl, hx, hq0, hq1⟩ := can_at (HR3.out.ext hbw) (show k < S.length by rw [HSL.out]; exact hlt)
        have i1 : (k : Int) < n := by omega
        have hl0 : ((S.take k).map (·.1)).length = k := by rw [List.length_map, List.length_take, HSL.out]; omega
        have hl1 : (S.take k).map (·.1) ++ [x.1] = (S.take (k + 1)).map (·.1) := by rw [take_snocG hx]; simp
        have hl2 : ((S.take (k + 1)).map (·.1)).length = k + 1 := by rw [List.length_map, List.length_take, HSL.out]; omega
        have hO : OwnR intE wr w3.heap.size (.slice A3 ((S.take k).map (·.1)).length c3) ((S.take k).map (·.1)) := by rw [hl0]; exact HO.out
        generalize (S.take k).map (·.1) = l0 at hl0 hl1 hO
        obtain ⟨l', hl'⟩ : ∃ l', (S.take (k + 1)).map (·.1) = l' := ⟨_, rfl⟩
        rw [hl'] at hl1 hl2
        have HLL := Lib.hid hl'
        have H0 := Lib.hid hl0; have H1 := Lib.hid hl1; have H2 := Lib.hid hl2; have HOO := Lib.hid hO
        clear hl' hx HO hl0 hl1 hl2 hO
        go_wp2_with (at_builtin; refine wpList_ownR intE rfl (.tmp 31) (.tmp 34) _ rfl rfl _ w3.heap.size (by simp; omega) A3 c3 k l0 H0.out.symm (HOO.out.ext (by repeat' (first | with_reducible exact Below.refl _ _ | with_reducible assumption | with_reducible apply Below.drew | with_reducible apply below_drewN | with_reducible apply Below.alloc | with_reducible apply Below.setCell | (with_reducible refine Below.trans ?_ (Below.mono (by assumption) ?_)) | (simp; done) | (simp; omega) | omega | with_reducible apply le_size_alloc | with_reducible apply le_size_drewN | with_reducible apply le_size_drew | with_reducible apply le_size_setCell | refine Nat.le_trans ?_ (Below.size (by assumption))))) (some ⟨wr.heap.size + 1, 0, none⟩) 1 1 [x.1] rfl (SR.of_blk (E := intE) (l := [x.1]) (t := 3) (Blk.new_ (by simp) rfl)) (by simp) (by simp; have := H0.out; omega) rfl rfl ?_; rw [H1.out]; intro A5 c5 w5 hO5 hb5 hg5; rw [H2.out] at hO5 ⊢)
        go_roundw
        case rel => exact ⟨k + 1, A5, c5, by omega, by go_num, rfl, by rw [HLL.out]; exact hO5, (by repeat' (first | with_reducible exact Below.refl _ _ | with_reducible assumption | with_reducible apply Below.drew | with_reducible apply below_drewN | with_reducible apply Below.alloc | with_reducible apply Below.setCell | (with_reducible refine Below.trans ?_ (Below.mono (by assumption) ?_)) | (simp; done) | (simp; omega) | omega | with_reducible apply le_size_alloc | with_reducible apply le_size_drewN | with_reducible apply le_size_drew | with_reducible apply le_size_setCell | refine Nat.le_trans ?_ (Below.size (by assumption))))⟩
        case measure => simp [intOf]; omega
      · obtain rfl : k = n := by omega
        have hO := HO.out
        rw [List.take_of_length_le (by rw [HSL.out]; exact Nat.le_refl _)] at hO
        have HOO := Lib.hid hO
        clear HO hO hlt
        go_wp2
        refine bodyPost_ret (v := .tuple #[.slice A3 k c3, .int .i64 0]) (by simp [results, Tryz.results18, go_sem]) rfl ?_
        exact HP _ _ _ A3 c3 rfl (by rw [List.length_map, HSL.out]) (OwnR.sr HOO.out).2.sl (B3.trans (hbw.mono B3.size))
  · have HP : ∀ e w' A c, e = .returned (.tuple #[.slice A 0 c, .int .i64 (rnkE l sp)]) → Below w.heap.size w w' → RnkPost l sp w e w' := fun e' w' A' c' he hb => by
      unfold RnkPost
      rw [if_neg h0]
      exact ⟨⟨A', c', he, fun h => absurd h h0⟩, hb⟩
    generalize rnkE l sp = z at *
    have hb : (z != 0) = true := by simpa using h0
    clear h0
    go_enter Tryz.func18, Tryz.ntmps18
    go_wp2_with fail
    refine hC.mono ?_
    rintro e w1 ⟨⟨mb, rfl, _⟩, hb1⟩
    go_wp2
    refine bodyPost_ret (v := .tuple #[.slice none 0 0, .int .i64 z]) (by simp [results, Tryz.results18, go_sem]) rfl ?_
    exact HP _ _ none 0 rfl (by repeat' (first | with_reducible exact Below.refl _ _ | with_reducible assumption | with_reducible apply Below.drew | with_reducible apply below_drewN | with_reducible apply Below.alloc | with_reducible apply Below.setCell | (with_reducible refine Below.trans ?_ (Below.mono (by assumption) ?_)) | (simp; done) | (simp; omega) | omega | with_reducible apply le_size_alloc | with_reducible apply le_size_drewN | with_reducible apply le_size_drew | with_reducible apply le_size_setCell | refine Nat.le_trans ?_ (Below.size (by assumption))))
end Go.Proofs.YtmbpjafiinfkkaaGreatDoor
