/- Contracts of balance: the methods of walk, Steps, Lacks. Written by gen_balt.py. -/
import Derived.Test.YtifimhfdapkpoaaBalS
import Derived.Test.YtifimhfdapkpoaaMapF
namespace Go.Proofs.Ytifimhfdapkpoaa
open Go.RowKit Go.Maps

set_option maxHeartbeats 400000 in
theorem settle_ok (R : Nat) (A1 A2 A3 : Option Addr) (n1 n2 n3 c1 c2 c3 : Nat) (u1 u2 u3 : Value) (w : World) (hb : Blk w R 49 #[u1, u2, u3]) :
    Calls Try.prog 53 #[.pointer (some ⟨R, 0, none⟩), .agg #[(.slice A1 n1 c1), (.slice A2 n2 c2), (.slice A3 n3 c3)], .int .i64 0] w fun e w' => e = .returned (.int .i64 0) ∧
      w' = (((w.setCell ⟨R, 0, none⟩ (.slice A1 n1 c1)).setCell ⟨R, 1, none⟩ (.slice A2 n2 c2)).setCell ⟨R, 2, none⟩ (.slice A3 n3 c3)).alloc (.cells #[.slice A1 n1 c1, .slice A2 n2 c2, .slice A3 n3 c3] 33) := by
  have hlt := hb.lt
  have k0 := (hb.cell_ 0).trans (by simp : _ = some u1)
  have k1 := (hb.cell_ 1).trans (by simp : _ = some u2)
  have k2 := (hb.cell_ 2).trans (by simp : _ = some u3)
  have k3 := hb.frozen_ 0; have k4 := hb.frozen_ 1; have k5 := hb.frozen_ 2
  have n1 : ¬ R = w.heap.size := by omega
  have n2 : ¬ w.heap.size = R := by omega
  clear hb
  go_enter Try.func53, Try.ntmps53
  go_wp2
  go_ret
  exact ⟨rfl, rfl⟩

/-- What a step of a walk leaves: the walk's lists are the next ones. -/
def MvPost (R : Nat) (us vs : List Int) (ts : List Bool) (w : World) (e : Ending) (w' : World) : Prop :=
  ∃ A1 c1 A2 c2 A3 c3, e = .returned (.int .i64 0) ∧ Blk w' R 49 #[.slice A1 us.length c1, .slice A2 vs.length c2, .slice A3 ts.length c3] ∧ InMem w' A1 A2 A3 us vs ts ∧ w.grownBy w' (some R)

set_option maxHeartbeats 1000000 in
theorem wdemote_ok (R : Nat) (Aa Ai Ar : Option Addr) (ca ci cr : Nat) (xs ys us vs : List Int) (rs ts : List Bool) (w : World) (hb : Blk w R 49 #[.slice Aa xs.length ca, .slice Ai ys.length ci, .slice Ar rs.length cr]) (hm : InMem w Aa Ai Ar xs ys rs) (hS : demS xs ys rs = ⟨us, vs, ts, 0⟩) :
    Calls Try.prog 39 #[.pointer (some ⟨R, 0, none⟩)] w (MvPost R us vs ts w) := by
  have HM := Lib.hid hm; have HS := Lib.hid hS; have HB := Lib.hid hb
  have hlt := hb.lt
  have k0 := (hb.cell_ 0).trans (by simp : _ = some (.slice Aa xs.length ca))
  have k1 := (hb.cell_ 1).trans (by simp : _ = some (.slice Ai ys.length ci))
  have k2 := (hb.cell_ 2).trans (by simp : _ = some (.slice Ar rs.length cr))
  clear hm hS hb
  go_enter Try.func39, Try.ntmps39
  go_wp2_with fail
  refine (Demote_S _ _ _ _ _ _ _ _ _ _ HM.out).mono ?_
  unfold LPost3
  rw [HS.out]
  rintro e w2 ⟨A1, c1, A2, c2, A3, c3, rfl, m2, t2, h2⟩
  dsimp only at m2 ⊢
  have hz : w.heap.size ≤ w2.heap.size := h2.size
  have M2 := Lib.hid m2; have T2 := Lib.hid t2; have H2 := Lib.hid h2
  clear k0 k1 k2 m2 t2
  go_wp2_with fail
  have b2 := (HB.out.below_ h2 hlt).alloc_ (.cells #[.slice A1 us.length c1, .slice A2 vs.length c2, .slice A3 ts.length c3] 33)
  refine (settle_ok R _ _ _ _ _ _ _ _ _ _ _ _ _ b2).mono ?_
  rintro e w3 ⟨rfl, hw3⟩
  have hb3 : Blk w3 R 49 #[.slice A1 us.length c1, .slice A2 vs.length c2, .slice A3 ts.length c3] := by
    rw [hw3]
    have := (((b2.set_ 0 (.slice A1 us.length c1)).set_ 1 (.slice A2 vs.length c2)).set_ 2 (.slice A3 ts.length c3)).alloc_ (.cells #[.slice A1 us.length c1, .slice A2 vs.length c2, .slice A3 ts.length c3] 33)
    simpa using this
  have hm3 : InMem w3 A1 A2 A3 us vs ts := by
    rw [hw3]
    have m := M2.out.ext (w' := w2.alloc (.cells #[.slice A1 us.length c1, .slice A2 vs.length c2, .slice A3 ts.length c3] 33)) (by repeat' (first | with_reducible exact Below.refl _ _ | with_reducible assumption | with_reducible apply Below.drew | with_reducible apply below_drewN | with_reducible apply Below.alloc | with_reducible apply Below.setCell | (with_reducible refine Below.trans ?_ (Below.mono (by assumption) ?_)) | (simp; done) | (simp; omega) | omega | with_reducible apply le_size_alloc | with_reducible apply le_size_drewN | with_reducible apply le_size_drew | with_reducible apply le_size_setCell | refine Nat.le_trans ?_ (Below.size (by assumption))))
    exact (((m.far_ T2.out hlt _ _).far_ T2.out hlt _ _).far_ T2.out hlt _ _).ext (by repeat' (first | with_reducible exact Below.refl _ _ | with_reducible assumption | with_reducible apply Below.drew | with_reducible apply below_drewN | with_reducible apply Below.alloc | with_reducible apply Below.setCell | (with_reducible refine Below.trans ?_ (Below.mono (by assumption) ?_)) | (simp; done) | (simp; omega) | omega | with_reducible apply le_size_alloc | with_reducible apply le_size_drewN | with_reducible apply le_size_drew | with_reducible apply le_size_setCell | refine Nat.le_trans ?_ (Below.size (by assumption))))
  have hg3 : w.grownBy w3 (some R) := by
    rw [hw3]
    have g2 : w.grownBy w2 (some R) := ⟨H2.out.os, H2.out.tape, H2.out.output, H2.out.size, fun k hk _ => H2.out.block k hk⟩
    exact grown_alloc (grown_trans' (grown_trans' (grown_trans' (grown_alloc g2 _) (grown_setCell _ R 0 _)) (grown_setCell _ R 1 _)) (grown_setCell _ R 2 _)) _
  have HB3 := Lib.hid hb3; have HM3 := Lib.hid hm3; have HG3 := Lib.hid hg3
  clear hw3 hb3 hm3 hg3 b2
  go_wp2
  go_ret
  exact ⟨A1, c1, A2, c2, A3, c3, rfl, HB3.out, HM3.out, HG3.out⟩

set_option maxHeartbeats 1000000 in
theorem wpromote_ok (R : Nat) (Aa Ai Ar : Option Addr) (ca ci cr : Nat) (xs ys us vs : List Int) (rs ts : List Bool) (w : World) (hb : Blk w R 49 #[.slice Aa xs.length ca, .slice Ai ys.length ci, .slice Ar rs.length cr]) (hm : InMem w Aa Ai Ar xs ys rs) (hS : proS xs ys rs = ⟨us, vs, ts, 0⟩) :
    Calls Try.prog 40 #[.pointer (some ⟨R, 0, none⟩)] w (MvPost R us vs ts w) := by
  have HM := Lib.hid hm; have HS := Lib.hid hS; have HB := Lib.hid hb
  have hlt := hb.lt
  have k0 := (hb.cell_ 0).trans (by simp : _ = some (.slice Aa xs.length ca))
  have k1 := (hb.cell_ 1).trans (by simp : _ = some (.slice Ai ys.length ci))
  have k2 := (hb.cell_ 2).trans (by simp : _ = some (.slice Ar rs.length cr))
  clear hm hS hb
  go_enter Try.func40, Try.ntmps40
  go_wp2_with fail
  refine (Promote_S _ _ _ _ _ _ _ _ _ _ HM.out).mono ?_
  unfold LPost3
  rw [HS.out]
  rintro e w2 ⟨A1, c1, A2, c2, A3, c3, rfl, m2, t2, h2⟩
  dsimp only at m2 ⊢
  have hz : w.heap.size ≤ w2.heap.size := h2.size
  have M2 := Lib.hid m2; have T2 := Lib.hid t2; have H2 := Lib.hid h2
  clear k0 k1 k2 m2 t2
  go_wp2_with fail
  have b2 := (HB.out.below_ h2 hlt).alloc_ (.cells #[.slice A1 us.length c1, .slice A2 vs.length c2, .slice A3 ts.length c3] 33)
  refine (settle_ok R _ _ _ _ _ _ _ _ _ _ _ _ _ b2).mono ?_
  rintro e w3 ⟨rfl, hw3⟩
  have hb3 : Blk w3 R 49 #[.slice A1 us.length c1, .slice A2 vs.length c2, .slice A3 ts.length c3] := by
    rw [hw3]
    have := (((b2.set_ 0 (.slice A1 us.length c1)).set_ 1 (.slice A2 vs.length c2)).set_ 2 (.slice A3 ts.length c3)).alloc_ (.cells #[.slice A1 us.length c1, .slice A2 vs.length c2, .slice A3 ts.length c3] 33)
    simpa using this
  have hm3 : InMem w3 A1 A2 A3 us vs ts := by
    rw [hw3]
    have m := M2.out.ext (w' := w2.alloc (.cells #[.slice A1 us.length c1, .slice A2 vs.length c2, .slice A3 ts.length c3] 33)) (by repeat' (first | with_reducible exact Below.refl _ _ | with_reducible assumption | with_reducible apply Below.drew | with_reducible apply below_drewN | with_reducible apply Below.alloc | with_reducible apply Below.setCell | (with_reducible refine Below.trans ?_ (Below.mono (by assumption) ?_)) | (simp; done) | (simp; omega) | omega | with_reducible apply le_size_alloc | with_reducible apply le_size_drewN | with_reducible apply le_size_drew | with_reducible apply le_size_setCell | refine Nat.le_trans ?_ (Below.size (by assumption))))
    exact (((m.far_ T2.out hlt _ _).far_ T2.out hlt _ _).far_ T2.out hlt _ _).ext (by repeat' (first | with_reducible exact Below.refl _ _ | with_reducible assumption | with_reducible apply Below.drew | with_reducible apply below_drewN | with_reducible apply Below.alloc | with_reducible apply Below.setCell | (with_reducible refine Below.trans ?_ (Below.mono (by assumption) ?_)) | (simp; done) | (simp; omega) | omega | with_reducible apply le_size_alloc | with_reducible apply le_size_drewN | with_reducible apply le_size_drew | with_reducible apply le_size_setCell | refine Nat.le_trans ?_ (Below.size (by assumption))))
  have hg3 : w.grownBy w3 (some R) := by
    rw [hw3]
    have g2 : w.grownBy w2 (some R) := ⟨H2.out.os, H2.out.tape, H2.out.output, H2.out.size, fun k hk _ => H2.out.block k hk⟩
    exact grown_alloc (grown_trans' (grown_trans' (grown_trans' (grown_alloc g2 _) (grown_setCell _ R 0 _)) (grown_setCell _ R 1 _)) (grown_setCell _ R 2 _)) _
  have HB3 := Lib.hid hb3; have HM3 := Lib.hid hm3; have HG3 := Lib.hid hg3
  clear hw3 hb3 hm3 hg3 b2
  go_wp2
  go_ret
  exact ⟨A1, c1, A2, c2, A3, c3, rfl, HB3.out, HM3.out, HG3.out⟩

/-- The two steps of a walk in a map. -/
def twoSteps (R : Nat) : Array MapEntry := #[⟨.int .i64 1, .func (.func 39) #[.pointer (some ⟨R, 0, none⟩)] #[], 0⟩, ⟨.int .i64 2, .func (.func 40) #[.pointer (some ⟨R, 0, none⟩)] #[], 1⟩]
theorem two_1 (R : Nat) : Instr.findNow (.int .i64) (.int .i64 1) (twoSteps R).toList 0 = some (some (0, .func (.func 39) #[.pointer (some ⟨R, 0, none⟩)] #[])) := rfl
theorem two_2 (R : Nat) : Instr.findNow (.int .i64) (.int .i64 2) (twoSteps R).toList 0 = some (some (1, .func (.func 40) #[.pointer (some ⟨R, 0, none⟩)] #[])) := rfl
theorem two_3 (R : Nat) : Instr.findNow (.int .i64) (.int .i64 3) (twoSteps R).toList 0 = some none := rfl
theorem two_0 (R : Nat) : Instr.findNow (.int .i64) (.int .i64 0) (twoSteps R).toList 0 = some none := rfl
theorem zeroF (w : World) : (zeroValue 51).run Try.prog w = .ok .nilFunc w := by kernel_rfl

set_option maxHeartbeats 400000 in
theorem Steps_bad (Aa Ai Ar : Option Addr) (ca ci cr : Nat) (xs ys : List Int) (rs : List Bool) (z : Int) (w : World) (hm : InMem w Aa Ai Ar xs ys rs) (hc : lruChk xs ys rs = z) (hz : z ≠ 0) :
    Calls Try.prog 18 #[.agg #[.slice Aa xs.length ca, .slice Ai ys.length ci, .slice Ar rs.length cr]] w fun e w' => e = .returned (.tuple #[.int .i64 0, .int .i64 z]) ∧ Below w.heap.size w w' := by
  have HM := Lib.hid hm; have HC := Lib.hid hc
  have hne : (z != 0) = true := by simpa using hz
  clear hm hc hz
  go_enter Try.func18, Try.ntmps18
  go_wp2_with fail
  refine ((HM.out.ext (by repeat' (first | with_reducible exact Below.refl _ _ | with_reducible assumption | with_reducible apply Below.drew | with_reducible apply below_drewN | with_reducible apply Below.alloc | with_reducible apply Below.setCell | (with_reducible refine Below.trans ?_ (Below.mono (by assumption) ?_)) | (simp; done) | (simp; omega) | omega | with_reducible apply le_size_alloc | with_reducible apply le_size_drewN | with_reducible apply le_size_drew | with_reducible apply le_size_setCell | refine Nat.le_trans ?_ (Below.size (by assumption))))).check _ _ _).mono ?_
  rw [HC.out]
  rintro e w1 ⟨rfl, hb1⟩
  go_wp2
  go_ret2
  exact ⟨rfl, (by repeat' (first | with_reducible exact Below.refl _ _ | with_reducible assumption | with_reducible apply Below.drew | with_reducible apply below_drewN | with_reducible apply Below.alloc | with_reducible apply Below.setCell | (with_reducible refine Below.trans ?_ (Below.mono (by assumption) ?_)) | (simp; done) | (simp; omega) | omega | with_reducible apply le_size_alloc | with_reducible apply le_size_drewN | with_reducible apply le_size_drew | with_reducible apply le_size_setCell | refine Nat.le_trans ?_ (Below.size (by assumption))))⟩

set_option maxRecDepth 100000 in
set_option maxHeartbeats 3000000 in
theorem Steps_ok (Aa Ai Ar : Option Addr) (ca ci cr : Nat) (xs ys : List Int) (rs : List Bool) (w : World) (hm : InMem w Aa Ai Ar xs ys rs) (hc : lruChk xs ys rs = 0) :
    Calls Try.prog 18 #[.agg #[.slice Aa xs.length ca, .slice Ai ys.length ci, .slice Ar rs.length cr]] w fun e w' => e = .returned (.tuple #[.int .i64 (stepsS xs ys rs), .int .i64 0]) ∧ Below w.heap.size w w' := by
  have hv := valid_of_chk hc
  have hhi := hv.hi
  have hmu := mu_le hv
  have hle := steps_le xs ys rs
  have HM := Lib.hid hm; have HC := Lib.hid hc
  clear hm hc hv
  have hmm := @run_makeMap Try.prog
  go_enter Try.func18, Try.ntmps18
  go_wp2_with fail
  have hm1 := HM.out.ext (w' := (w.alloc (.cells #[.slice Aa xs.length ca, .slice Ai ys.length ci, .slice Ar rs.length cr] 33))) (by repeat' (first | with_reducible exact Below.refl _ _ | with_reducible assumption | with_reducible apply Below.drew | with_reducible apply below_drewN | with_reducible apply Below.alloc | with_reducible apply Below.setCell | (with_reducible refine Below.trans ?_ (Below.mono (by assumption) ?_)) | (simp; done) | (simp; omega) | omega | with_reducible apply le_size_alloc | with_reducible apply le_size_drewN | with_reducible apply le_size_drew | with_reducible apply le_size_setCell | refine Nat.le_trans ?_ (Below.size (by assumption))))
  refine (hm1.check _ _ _).mono ?_
  rw [HC.out]
  rintro e w1 ⟨rfl, hb1⟩
  have p0 : w1.cell? ⟨w.heap.size, 0, none⟩ = some (.slice Aa xs.length ca) := cell_keep hb1 (by simp) (by simp)
  have p1 : w1.cell? ⟨w.heap.size, 1, none⟩ = some (.slice Ai ys.length ci) := cell_keep hb1 (by simp) (by simp)
  have p2 : w1.cell? ⟨w.heap.size, 2, none⟩ = some (.slice Ar rs.length cr) := cell_keep hb1 (by simp) (by simp)
  have M1 := Lib.hid (hm1.ext hb1)
  obtain ⟨W0, hW0⟩ : ∃ W0, W0 = (w1.alloc (.cells #[.slice Aa xs.length ca, .slice Ai ys.length ci, .slice Ar rs.length cr] 49)).alloc (.map #[] 0) := ⟨_, rfl⟩
  have mp0 : MapIs W0 (w1.heap.size + 1) #[] 0 := by
    rw [hW0]
    have := MapIs.new_ (w1.alloc (.cells #[.slice Aa xs.length ca, .slice Ai ys.length ci, .slice Ar rs.length cr] 49))
    simpa using this
  have e1 := run_put (P := Try.prog) (u := .func (.func 39) #[.pointer (some ⟨w1.heap.size, 0, none⟩)] #[]) Try.underlying52 Try.underlying50 mp0 1 rfl
  have mp1 := putMap_is mp0 (#[].push ⟨.int .i64 1, .func (.func 39) #[.pointer (some ⟨w1.heap.size, 0, none⟩)] #[], 0⟩) (0 + 1)
  have e2 := run_put (P := Try.prog) (u := .func (.func 40) #[.pointer (some ⟨w1.heap.size, 0, none⟩)] #[]) Try.underlying52 Try.underlying50 mp1 2 rfl
  have g1 : w1.grownBy W0 none := by rw [hW0]; exact grown_alloc (grown_alloc (grown_refl _ _) _) _
  have b0 : Blk W0 w1.heap.size 49 #[.slice Aa xs.length ca, .slice Ai ys.length ci, .slice Ar rs.length cr] := by rw [hW0]; exact (Blk.new_ rfl rfl).alloc_ _
  have sz0 : W0.heap.size = w1.heap.size + 2 := by rw [hW0]; simp
  generalize hW1 : putMap W0 (w1.heap.size + 1) (#[].push ⟨.int .i64 1, .func (.func 39) #[.pointer (some ⟨w1.heap.size, 0, none⟩)] #[], 0⟩) (0 + 1) = W1 at *
  have g2 : W0.grownBy W1 (some (w1.heap.size + 1)) := by rw [← hW1]; exact putMap_grown _ _ _ _
  generalize hW2 : putMap W1 (w1.heap.size + 1) ((#[].push ⟨.int .i64 1, .func (.func 39) #[.pointer (some ⟨w1.heap.size, 0, none⟩)] #[], 0⟩ : Array MapEntry).push ⟨.int .i64 2, .func (.func 40) #[.pointer (some ⟨w1.heap.size, 0, none⟩)] #[], 0 + 1⟩) (0 + 1 + 1) = W2 at *
  have g3 : W1.grownBy W2 (some (w1.heap.size + 1)) := by rw [← hW2]; exact putMap_grown _ _ _ _
  have mp2 : MapIs W2 (w1.heap.size + 1) (twoSteps w1.heap.size) 2 := by rw [← hW2]; exact putMap_is mp1 _ _
  have g4 : W0.grownBy W2 (some (w1.heap.size + 1)) := grown_trans' g2 g3
  have b2 : Blk W2 w1.heap.size 49 #[.slice Aa xs.length ca, .slice Ai ys.length ci, .slice Ar rs.length cr] := blk_grown b0 g4 (by simp)
  have bw1 : Below w1.heap.size w1 W2 := ((Below.refl _ _).grown g1 (Nat.le_refl _) (fun k hk => by cases hk)).grown g4 (by omega) (fun k hk => by cases hk; omega)
  have m2 := M1.out.ext bw1
  have bww : Below w.heap.size w w1 := (by repeat' (first | with_reducible exact Below.refl _ _ | with_reducible assumption | with_reducible apply Below.drew | with_reducible apply below_drewN | with_reducible apply Below.alloc | with_reducible apply Below.setCell | (with_reducible refine Below.trans ?_ (Below.mono (by assumption) ?_)) | (simp; done) | (simp; omega) | omega | with_reducible apply le_size_alloc | with_reducible apply le_size_drewN | with_reducible apply le_size_drew | with_reducible apply le_size_setCell | refine Nat.le_trans ?_ (Below.size (by assumption))))
  have hzw : w.heap.size < w1.heap.size := by have := hb1.size; simp at this; omega
  have bw2 : Below w.heap.size w W2 := bww.trans (bw1.mono (by omega))
  have MP2 := Lib.hid mp2; have B2 := Lib.hid b2; have M2 := Lib.hid m2; have BW2 := Lib.hid bw2
  rw [hW0] at e1
  clear mp0 mp1 mp2 g1 b0 sz0 g2 g3 g4 b2 bw1 m2 bww bw2 hW0 hW1 hW2 hm1
  go_wp2_with fail
  go_loopw [7] (fun v wr => ∃ (n : Nat) (A1 : Option Addr) (c1 : Nat) (A2 : Option Addr) (c2 : Nat) (A3 : Option Addr) (c3 : Nat) (us vs : List Int) (ts : List Bool), v = .int .i64 n ∧ MapIs wr (w1.heap.size + 1) (twoSteps w1.heap.size) 2 ∧
      Blk wr w1.heap.size 49 #[.slice A1 us.length c1, .slice A2 vs.length c2, .slice A3 ts.length c3] ∧ InMem wr A1 A2 A3 us vs ts ∧ Hid (lruChk us vs ts = 0) ∧ Hid (n + stepsS us vs ts = stepsS xs ys rs) ∧ Below w.heap.size w wr)
    (fun v _ => stepsS xs ys rs - (intOf v).toNat)
  case atStart => exact ⟨0, Aa, ca, Ai, ci, Ar, cr, xs, ys, rs, rfl, MP2.out, B2.out, M2.out, HC, by simp [Hid], BW2.out⟩
  case round =>
    obtain ⟨n, A1, c1, A2, c2, A3, c3, us, vs, ts, rfl, mp, bk, m, HCK, HN, hbw⟩ := hrel
    have k0 := (bk.cell_ 0).trans (by simp : _ = some (.slice A1 us.length c1))
    have k1 := (bk.cell_ 1).trans (by simp : _ = some (.slice A2 vs.length c2))
    have k2 := (bk.cell_ 2).trans (by simp : _ = some (.slice A3 ts.length c3))
    have hzr : w.heap.size ≤ wr.heap.size := hbw.size
    have hn1 : n ≤ stepsS xs ys rs := by have := HN.out; omega
    have MP := Lib.hid mp; have BK := Lib.hid bk; have M := Lib.hid m
    clear mp bk m e1 e2
    rcases (which_cases us vs ts).imp (·.1) (Or.imp (·.1) (Or.imp (·.1) (·.1))) with hwh | hwh | hwh | hwh
    · have hnx := next_dem HCK.out hwh
      have hon := steps_on HCK.out (.inl hwh)
      have nok := next_ok HCK.out (.inl hwh)
      obtain ⟨⟨us', vs', ts', z'⟩, hR⟩ : ∃ R : LR, nextL us vs ts = R := ⟨_, rfl⟩
      rw [hR] at hon nok
      have hz' : z' = 0 := nok.e
      subst hz'
      have HSS : Hid (demS us vs ts = ⟨us', vs', ts', 0⟩) := hnx.2.1.trans hR
      have HC2 : Hid (lruChk us' vs' ts' = 0) := nok.chk
      have HN2 : Hid ((n + 1) + stepsS us' vs' ts' = stepsS xs ys rs) := by
        show _ = _
        have h1 := HN.out
        have h2 : stepsS us vs ts = 1 + stepsS us' vs' ts' := hon
        omega
      have hn2 : n + 1 ≤ stepsS xs ys rs := by have := HN2.out; omega
      have HWH := Lib.hid hwh
      clear hnx hon nok hR hwh
      go_wp2_with fail
      refine (which_any _ _ _ _ _ _ _ _ _ _ M.out.i M.out.r (valid_of_chk HCK.out)).mono ?_
      rw [HWH.out]
      rintro e w2 ⟨rfl, h2⟩
      have mp2 := MP.out.below_ h2 MP.out.lt
      have b2 := BK.out.below_ h2 BK.out.lt
      have m2 := M.out.ext h2
      have e3 := run_look_yes (P := Try.prog) Try.underlying52 Try.underlying50 mp2 1 (two_1 _)
      have MPB := Lib.hid mp2; have B2 := Lib.hid b2; have MB := Lib.hid m2; have HB2 := Lib.hid h2
      clear mp2 b2 m2 k0 k1 k2
      go_wp2_with fail
      refine (wdemote_ok _ _ _ _ _ _ _ us vs us' vs' ts ts' _ B2.out MB.out HSS.out).mono ?_
      rintro e w3 ⟨D1, d1, D2, d2, D3, d3, rfl, b3, m3, g3⟩
      have mp3 := MPB.out.grown_ g3 (by simp)
      have bw3 : Below w.heap.size w w3 := (hbw.trans (HB2.out.mono hzr)).grown g3 (by have := HB2.out.size; omega) (fun k hk => by cases hk; omega)
      have MP3 := Lib.hid mp3; have B3 := Lib.hid b3; have M3 := Lib.hid m3; have BW3 := Lib.hid bw3
      clear e3 mp3 b3 m3 g3 bw3
      go_wp2
      go_roundw
      case rel => exact ⟨n + 1, D1, d1, D2, d2, D3, d3, us', vs', ts', by go_num, MP3.out, B3.out, M3.out, HC2, HN2, BW3.out⟩
      case measure => simp [intOf]; omega
    · have hnx := next_pro HCK.out hwh
      have hon := steps_on HCK.out (.inr hwh)
      have nok := next_ok HCK.out (.inr hwh)
      obtain ⟨⟨us', vs', ts', z'⟩, hR⟩ : ∃ R : LR, nextL us vs ts = R := ⟨_, rfl⟩
      rw [hR] at hon nok
      have hz' : z' = 0 := nok.e
      subst hz'
      have HSS : Hid (proS us vs ts = ⟨us', vs', ts', 0⟩) := hnx.2.1.trans hR
      have HC2 : Hid (lruChk us' vs' ts' = 0) := nok.chk
      have HN2 : Hid ((n + 1) + stepsS us' vs' ts' = stepsS xs ys rs) := by
        show _ = _
        have h1 := HN.out
        have h2 : stepsS us vs ts = 1 + stepsS us' vs' ts' := hon
        omega
      have hn2 : n + 1 ≤ stepsS xs ys rs := by have := HN2.out; omega
      have HWH := Lib.hid hwh
      clear hnx hon nok hR hwh
      go_wp2_with fail
      refine (which_any _ _ _ _ _ _ _ _ _ _ M.out.i M.out.r (valid_of_chk HCK.out)).mono ?_
      rw [HWH.out]
      rintro e w2 ⟨rfl, h2⟩
      have mp2 := MP.out.below_ h2 MP.out.lt
      have b2 := BK.out.below_ h2 BK.out.lt
      have m2 := M.out.ext h2
      have e3 := run_look_yes (P := Try.prog) Try.underlying52 Try.underlying50 mp2 2 (two_2 _)
      have MPB := Lib.hid mp2; have B2 := Lib.hid b2; have MB := Lib.hid m2; have HB2 := Lib.hid h2
      clear mp2 b2 m2 k0 k1 k2
      go_wp2_with fail
      refine (wpromote_ok _ _ _ _ _ _ _ us vs us' vs' ts ts' _ B2.out MB.out HSS.out).mono ?_
      rintro e w3 ⟨D1, d1, D2, d2, D3, d3, rfl, b3, m3, g3⟩
      have mp3 := MPB.out.grown_ g3 (by simp)
      have bw3 : Below w.heap.size w w3 := (hbw.trans (HB2.out.mono hzr)).grown g3 (by have := HB2.out.size; omega) (fun k hk => by cases hk; omega)
      have MP3 := Lib.hid mp3; have B3 := Lib.hid b3; have M3 := Lib.hid m3; have BW3 := Lib.hid bw3
      clear e3 mp3 b3 m3 g3 bw3
      go_wp2
      go_roundw
      case rel => exact ⟨n + 1, D1, d1, D2, d2, D3, d3, us', vs', ts', by go_num, MP3.out, B3.out, M3.out, HC2, HN2, BW3.out⟩
      case measure => simp [intOf]; omega
    · have hst : stepsS us vs ts = 0 := steps_end (by rw [hwh]; simp)
      have HN3 : Hid (n = stepsS xs ys rs) := by show _ = _; have := HN.out; omega
      have HWH := Lib.hid hwh
      clear hwh hst
      go_wp2_with fail
      refine (which_any _ _ _ _ _ _ _ _ _ _ M.out.i M.out.r (valid_of_chk HCK.out)).mono ?_
      rw [HWH.out]
      rintro e w2 ⟨rfl, h2⟩
      have mp2 := MP.out.below_ h2 MP.out.lt
      have e3 := run_look_no (P := Try.prog) Try.underlying52 Try.underlying50 mp2 3 (zeroF _) (two_3 _)
      have HB2 := Lib.hid h2
      clear mp2 k0 k1 k2
      go_wp2
      go_ret2
      exact ⟨by rw [← HN3.out]; rfl, hbw.trans (HB2.out.mono hzr)⟩
    · have hst : stepsS us vs ts = 0 := steps_end (by rw [hwh]; simp)
      have HN3 : Hid (n = stepsS xs ys rs) := by show _ = _; have := HN.out; omega
      have HWH := Lib.hid hwh
      clear hwh hst
      go_wp2_with fail
      refine (which_any _ _ _ _ _ _ _ _ _ _ M.out.i M.out.r (valid_of_chk HCK.out)).mono ?_
      rw [HWH.out]
      rintro e w2 ⟨rfl, h2⟩
      have mp2 := MP.out.below_ h2 MP.out.lt
      have e3 := run_look_no (P := Try.prog) Try.underlying52 Try.underlying50 mp2 0 (zeroF _) (two_0 _)
      have HB2 := Lib.hid h2
      clear mp2 k0 k1 k2
      go_wp2
      go_ret2
      exact ⟨by rw [← HN3.out]; rfl, hbw.trans (HB2.out.mono hzr)⟩

/-- What Steps and Lacks give back. -/
def stepsV (xs ys : List Int) (rs : List Bool) : Int := if lruChk xs ys rs ≠ 0 then 0 else (stepsS xs ys rs : Int)
def lacksV (xs ys : List Int) (rs : List Bool) : Int := if lruChk xs ys rs ≠ 0 then 0 else max 0 (tgt (xs.length + ys.length) - ys.length)
def whichV (xs ys : List Int) (rs : List Bool) : Int := if lruChk xs ys rs ≠ 0 then 0 else whichS xs ys rs
section
variable (Aa Ai Ar : Option Addr) (ca ci cr : Nat) (xs ys : List Int) (rs : List Bool) (w : World) (hm : InMem w Aa Ai Ar xs ys rs)
include hm
theorem Steps_S : Calls Try.prog 18 #[.agg #[.slice Aa xs.length ca, .slice Ai ys.length ci, .slice Ar rs.length cr]] w fun e w' => e = .returned (.tuple #[.int .i64 (stepsV xs ys rs), .int .i64 (lruChk xs ys rs)]) ∧ Below w.heap.size w w' := by
  unfold stepsV
  by_cases h0 : lruChk xs ys rs ≠ 0
  · rw [if_pos h0]
    exact Steps_bad _ _ _ _ _ _ _ _ _ _ _ hm rfl h0
  · rw [if_neg h0]
    have h0' : lruChk xs ys rs = 0 := by simpa using h0
    rw [h0']
    exact Steps_ok _ _ _ _ _ _ _ _ _ _ hm h0'
theorem Which_S : Calls Try.prog 19 #[.agg #[.slice Aa xs.length ca, .slice Ai ys.length ci, .slice Ar rs.length cr]] w fun e w' => e = .returned (.tuple #[.int .i64 (whichV xs ys rs), .int .i64 (lruChk xs ys rs)]) ∧ Below w.heap.size w w' := by
  refine (Which_any _ _ _ _ _ _ _ _ _ _ hm).mono ?_
  rintro e w' ⟨rfl, hb⟩
  refine ⟨?_, hb⟩
  unfold whichV
  by_cases h0 : lruChk xs ys rs = 0
  · rw [if_pos h0, if_neg (by simpa using h0), h0]
  · rw [if_neg h0, if_pos h0]
end
set_option maxHeartbeats 400000 in
theorem Lacks_S (Aa Ai Ar : Option Addr) (ca ci cr : Nat) (xs ys : List Int) (rs : List Bool) (w : World) (hm : InMem w Aa Ai Ar xs ys rs) : Calls Try.prog 25 #[.agg #[.slice Aa xs.length ca, .slice Ai ys.length ci, .slice Ar rs.length cr]] w fun e w' => e = .returned (.tuple #[.int .i64 (lacksV xs ys rs), .int .i64 (lruChk xs ys rs)]) ∧ Below w.heap.size w w' := by
  unfold lacksV
  by_cases h0 : lruChk xs ys rs ≠ 0
  · rw [if_pos h0]
    have hne : (lruChk xs ys rs != 0) = true := by simpa using h0
    generalize hz : lruChk xs ys rs = z at *
    have HM := Lib.hid hm; have HC := Lib.hid hz
    clear hm hz h0
    go_enter Try.func25, Try.ntmps25
    go_wp2_with fail
    refine ((HM.out.ext (by repeat' (first | with_reducible exact Below.refl _ _ | with_reducible assumption | with_reducible apply Below.drew | with_reducible apply below_drewN | with_reducible apply Below.alloc | with_reducible apply Below.setCell | (with_reducible refine Below.trans ?_ (Below.mono (by assumption) ?_)) | (simp; done) | (simp; omega) | omega | with_reducible apply le_size_alloc | with_reducible apply le_size_drewN | with_reducible apply le_size_drew | with_reducible apply le_size_setCell | refine Nat.le_trans ?_ (Below.size (by assumption))))).check _ _ _).mono ?_
    rw [HC.out]
    rintro e w1 ⟨rfl, hb1⟩
    go_wp2
    go_ret2
    exact ⟨rfl, (by repeat' (first | with_reducible exact Below.refl _ _ | with_reducible assumption | with_reducible apply Below.drew | with_reducible apply below_drewN | with_reducible apply Below.alloc | with_reducible apply Below.setCell | (with_reducible refine Below.trans ?_ (Below.mono (by assumption) ?_)) | (simp; done) | (simp; omega) | omega | with_reducible apply le_size_alloc | with_reducible apply le_size_drewN | with_reducible apply le_size_drew | with_reducible apply le_size_setCell | refine Nat.le_trans ?_ (Below.size (by assumption))))⟩
  · rw [if_neg h0]
    have h0' : lruChk xs ys rs = 0 := by simpa using h0
    have hv := valid_of_chk h0'
    have hlen := hv.len
    have hhi := hv.hi
    have HM := Lib.hid hm; have HC := Lib.hid h0'
    clear hm h0 h0' hv
    rw [HC.out]
    go_enter Try.func25, Try.ntmps25
    go_wp2_with fail
    have hm1 := HM.out.ext (w' := (w.alloc (.cells #[.slice Aa xs.length ca, .slice Ai ys.length ci, .slice Ar rs.length cr] 33))) (by repeat' (first | with_reducible exact Below.refl _ _ | with_reducible assumption | with_reducible apply Below.drew | with_reducible apply below_drewN | with_reducible apply Below.alloc | with_reducible apply Below.setCell | (with_reducible refine Below.trans ?_ (Below.mono (by assumption) ?_)) | (simp; done) | (simp; omega) | omega | with_reducible apply le_size_alloc | with_reducible apply le_size_drewN | with_reducible apply le_size_drew | with_reducible apply le_size_setCell | refine Nat.le_trans ?_ (Below.size (by assumption))))
    refine (hm1.check _ _ _).mono ?_
    rw [HC.out]
    rintro e w1 ⟨rfl, hb1⟩
    have p0 : w1.cell? ⟨w.heap.size, 0, none⟩ = some (.slice Aa xs.length ca) := cell_keep hb1 (by simp) (by simp)
    have p1 : w1.cell? ⟨w.heap.size, 1, none⟩ = some (.slice Ai ys.length ci) := cell_keep hb1 (by simp) (by simp)
    have p2 : w1.cell? ⟨w.heap.size, 2, none⟩ = some (.slice Ar rs.length cr) := cell_keep hb1 (by simp) (by simp)
    go_wp2_with fail
    refine (lacks_any _ _ _ _ _ _ _ _ (by omega)).mono ?_
    rintro e w2 ⟨rfl, hb2⟩
    go_wp2
    go_ret2
    exact ⟨rfl, (by repeat' (first | with_reducible exact Below.refl _ _ | with_reducible assumption | with_reducible apply Below.drew | with_reducible apply below_drewN | with_reducible apply Below.alloc | with_reducible apply Below.setCell | (with_reducible refine Below.trans ?_ (Below.mono (by assumption) ?_)) | (simp; done) | (simp; omega) | omega | with_reducible apply le_size_alloc | with_reducible apply le_size_drewN | with_reducible apply le_size_drew | with_reducible apply le_size_setCell | refine Nat.le_trans ?_ (Below.size (by assumption))))⟩
end Go.Proofs.Ytifimhfdapkpoaa
