/- Contracts of headgateref07: Remove, Last, Demote, Promote; one contract for each function. Written by gen_ref3.py. -/
import Derived.Test.YtiobbdfkimpfbaaRef2
namespace Go.Proofs.Ytiobbdfkimpfbaa
set_option linter.unusedSimpArgs false
set_option linter.unusedVariables false
open Go.RowKit Go.Maps

theorem RS.both {W w5 : World} {base R : Nat} {A1 A2 A3 : Option Addr} {c1 c2 c3 : Nat} {xs ys : List Int} {rs : List Bool} (h : RS W base R A1 c1 A2 c2 A3 c3 xs ys rs) {D1 D2 : Option Addr} {d1 d2 : Nat} {xs' ys' : List Int} (hb : Below W.heap.size W w5)
    (o1 : Own w5 base 3 (.int .i64) (.slice D1 xs'.length d1) xs') (o2 : Own w5 base 3 (.int .i64) (.slice D2 ys'.length d2) ys') (n1 : ∀ g, D1.map (·.block) = some g → W.heap.size ≤ g) (n2 : ∀ g, D2.map (·.block) = some g → W.heap.size ≤ g)
    (n3 : ∀ g, D1.map (·.block) = some g → D2.map (·.block) ≠ some g) :
    RS ((w5.setCell ⟨R, 0, none⟩ (.slice D1 xs'.length d1)).setCell ⟨R, 1, none⟩ (.slice D2 ys'.length d2)) base R D1 d1 D2 d2 A3 c3 xs' ys' rs := by
  have hR := h.blk.lt
  have f1 : D1.map (·.block) ≠ some R := fun e => by have := n1 R e; omega
  have f2 : D2.map (·.block) ≠ some R := fun e => by have := n2 R e; omega
  refine ⟨?_, ⟨(o1.far_ _ _ f1).far_ _ _ f1, (o2.far_ _ _ f2).far_ _ _ f2, ((h.own.r.below hb).far_ _ _ h.f3).far_ _ _ h.f3, n3, fun g e e2 => ?_, fun g e e2 => ?_⟩, f1, f2, h.f3⟩
  · have := ((h.blk.below_ hb hR).set_ 0 (.slice D1 xs'.length d1)).set_ 1 (.slice D2 ys'.length d2)
    simpa using this
  · have := (h.own.r.block g e2).2; have := n1 g e; omega
  · have := (h.own.r.block g e2).2; have := n2 g e; omega
theorem wo_lastF {xs : List Int} (hnd : xs.Nodup) (h : 0 < xs.length) : wo (lastF xs) xs = xs.eraseIdx (xs.length - 1) := by
  unfold lastF
  have e := erase_last h
  generalize xs.getD (xs.length - 1) 0 = l at *
  generalize xs.eraseIdx (xs.length - 1) = d at *
  subst e
  rw [wo_drop rfl]
  have hn := (List.nodup_append.1 hnd).2.2
  exact List.filter_eq_self.2 (fun a ha => by simpa using hn a ha l (by simp))
theorem lastF_mem {xs : List Int} (h : 0 < xs.length) : lastF xs ∈ xs := by
  unfold lastF
  rw [List.getD_eq_getElem?_getD, List.getElem?_eq_getElem (by omega)]
  exact List.getElem_mem _

set_option maxRecDepth 100000 in
set_option maxHeartbeats 1000000 in
theorem RRemove_ok (Aa Ai Ar : Option Addr) (ca ci cr : Nat) (xs ys : List Int) (rs : List Bool) (f : Int) (w : World) (hm : InMem w Aa Ai Ar xs ys rs) (wh : Int) (hc : lruChd xs ys rs f = 0) (hwh : fWhere xs ys f = wh) (hw : wh ≠ 0) :
    Calls Try.prog 49 #[.agg #[.slice Aa xs.length ca, .slice Ai ys.length ci, .slice Ar rs.length cr], .int .i64 f] w (ListsPost (wo f xs) (wo f ys) (rs.set f.toNat false) w) := by
  have HM := Lib.hid hm
  clear hm
  have hne : (wh == 0) = false := by simpa using hw
  have HC := Lib.hid hc; have HWH := Lib.hid hwh
  obtain ⟨hck, hf0, hf1⟩ := chd_ok hc
  have hv := valid_of_chk hck
  have hlen := hv.len
  have hhi := hv.hi
  clear hc hwh hw hck hv
  obtain ⟨i0, hi0, hz0, hz1, hz2⟩ := info_parts intInfo
  go_enter Try.func49, Try.ntmps49
  go_wp2_with fail
  have hm1 := HM.out.ext (w' := ((w.alloc (.cells #[.slice Aa xs.length ca, .slice Ai ys.length ci, .slice Ar rs.length cr] 25)).alloc (.cells #[.slice none 0 0, .slice none 0 0, .slice none 0 0] 25))) (by repeat' (first | with_reducible exact Below.refl _ _ | with_reducible assumption | with_reducible apply Below.drew | with_reducible apply below_drewN | with_reducible apply Below.alloc | with_reducible apply Below.setCell | (with_reducible refine Below.trans ?_ (Below.mono (by assumption) ?_)) | (simp; done) | (simp; omega) | omega | with_reducible apply le_size_alloc | with_reducible apply le_size_drewN | with_reducible apply le_size_drew | with_reducible apply le_size_setCell | refine Nat.le_trans ?_ (Below.size (by assumption))))
  refine (RWhere_S _ _ _ _ _ _ _ _ _ f _ hm1).mono ?_
  rw [HC.out, if_neg (by simp), HWH.out]
  rintro e w1 ⟨rfl, hb1⟩
  have hbl1 : Below (w.heap.size + 2) ((w.alloc (.cells #[.slice Aa xs.length ca, .slice Ai ys.length ci, .slice Ar rs.length cr] 25)).alloc (.cells #[.slice none 0 0, .slice none 0 0, .slice none 0 0] 25)) w1 := (by repeat' (first | with_reducible exact Below.refl _ _ | with_reducible assumption | with_reducible apply Below.drew | with_reducible apply below_drewN | with_reducible apply Below.alloc | with_reducible apply Below.setCell | (with_reducible refine Below.trans ?_ (Below.mono (by assumption) ?_)) | (simp; done) | (simp; omega) | omega | with_reducible apply le_size_alloc | with_reducible apply le_size_drewN | with_reducible apply le_size_drew | with_reducible apply le_size_setCell | refine Nat.le_trans ?_ (Below.size (by assumption))))
  have p0 : w1.cell? ⟨w.heap.size, 0, none⟩ = some (.slice Aa xs.length ca) := cell_keep hbl1 (by simp) (by simp)
  have p1 : w1.cell? ⟨w.heap.size, 1, none⟩ = some (.slice Ai ys.length ci) := cell_keep hbl1 (by simp) (by simp)
  have p2 : w1.cell? ⟨w.heap.size, 2, none⟩ = some (.slice Ar rs.length cr) := cell_keep hbl1 (by simp) (by simp)
  have hm2 := hm1.ext hb1
  go_wp2_with fail
  refine (Rown_any _ _ _ _ _ _ _ _ _ _ hm2.a hm2.i hm2.r (by omega) (by omega) (by omega)).mono ?_
  rintro e w3 ⟨A1, c1, A2, c2, A3, c3, rfl, hL, hb3⟩
  have s2 : w.heap.size + 2 ≤ w1.heap.size := by
    have := hbl1.size
    simp at this
    exact this
  have s3 : w1.heap.size ≤ w3.heap.size := hb3.size
  have s4 : w.heap.size + 1 < w3.heap.size := by omega
  have s5 : ¬ w.heap.size + 1 = w3.heap.size := by omega
  have hbl3 : Below (w.heap.size + 2) ((w.alloc (.cells #[.slice Aa xs.length ca, .slice Ai ys.length ci, .slice Ar rs.length cr] 25)).alloc (.cells #[.slice none 0 0, .slice none 0 0, .slice none 0 0] 25)) w3 := (by repeat' (first | with_reducible exact Below.refl _ _ | with_reducible assumption | with_reducible apply Below.drew | with_reducible apply below_drewN | with_reducible apply Below.alloc | with_reducible apply Below.setCell | (with_reducible refine Below.trans ?_ (Below.mono (by assumption) ?_)) | (simp; done) | (simp; omega) | omega | with_reducible apply le_size_alloc | with_reducible apply le_size_drewN | with_reducible apply le_size_drew | with_reducible apply le_size_setCell | refine Nat.le_trans ?_ (Below.size (by assumption))))
  have rs1 := RS.start hL
  have p0' : w3.cell? ⟨w.heap.size, 0, none⟩ = some (.slice Aa xs.length ca) := cell_keep hbl3 (by simp) (by simp)
  have p1' : w3.cell? ⟨w.heap.size, 1, none⟩ = some (.slice Ai ys.length ci) := cell_keep hbl3 (by simp) (by simp)
  have hmR : InMem (w3.alloc (.cells #[.slice A1 xs.length c1, .slice A2 ys.length c2, .slice A3 rs.length c3] 25)) Aa Ai Ar xs ys rs := HM.out.ext (by repeat' (first | with_reducible exact Below.refl _ _ | with_reducible assumption | with_reducible apply Below.drew | with_reducible apply below_drewN | with_reducible apply Below.alloc | with_reducible apply Below.setCell | (with_reducible refine Below.trans ?_ (Below.mono (by assumption) ?_)) | (simp; done) | (simp; omega) | omega | with_reducible apply le_size_alloc | with_reducible apply le_size_drewN | with_reducible apply le_size_drew | with_reducible apply le_size_setCell | refine Nat.le_trans ?_ (Below.size (by assumption))))
  have bR := rs1.blk
  have RS1 := Lib.hid rs1; have HMR := Lib.hid hmR; have BR := Lib.hid bR
  have l1 := wo_len f xs; have l2 := wo_len f ys
  have HBL3 := Lib.hid hbl3
  clear p0 p1 p2 hm1 hm2 hb1 hb3 hbl1 hL rs1 hmR bR hbl3
  go_wp2_with fail
  go_region_held3 (fun W => W.cell? ⟨w.heap.size, 0, none⟩ = some (.slice Aa xs.length ca) ∧ W.cell? ⟨w.heap.size, 1, none⟩ = some (.slice Ai ys.length ci))
    (refine ⟨?_, ?_⟩ <;> (refine cell_keep (B := w3.heap.size) (a := w3) (by repeat' (first | with_reducible exact Below.refl _ _ | with_reducible assumption | with_reducible apply Below.drew | with_reducible apply below_drewN | with_reducible apply Below.alloc | with_reducible apply Below.setCell | (with_reducible refine Below.trans ?_ (Below.mono (by assumption) ?_)) | (simp; done) | (simp; omega) | omega | with_reducible apply le_size_alloc | with_reducible apply le_size_drewN | with_reducible apply le_size_drew | with_reducible apply le_size_setCell | refine Nat.le_trans ?_ (Below.size (by assumption)))) (by assumption) (by simp; omega)))
    (first
      | (go_at_call 74; (with_reducible refine (Rwithout_any Aa ca xs f _ ?_ ?_).mono ?_); (exact HMR.out.a.ext (by repeat' (first | with_reducible exact Below.refl _ _ | with_reducible assumption | with_reducible apply Below.drew | with_reducible apply below_drewN | with_reducible apply Below.alloc | with_reducible apply Below.setCell | (with_reducible refine Below.trans ?_ (Below.mono (by assumption) ?_)) | (simp; done) | (simp; omega) | omega | with_reducible apply le_size_alloc | with_reducible apply le_size_drewN | with_reducible apply le_size_drew | with_reducible apply le_size_setCell | refine Nat.le_trans ?_ (Below.size (by assumption))))); (omega); rintro e w4 ⟨D1, d1, rfl, o4, hb4⟩)
      | (go_at_call 74; (with_reducible refine (Rwithout_any Ai ci ys f _ ?_ ?_).mono ?_); (exact HMR.out.i.ext (by repeat' (first | with_reducible exact Below.refl _ _ | with_reducible assumption | with_reducible apply Below.drew | with_reducible apply below_drewN | with_reducible apply Below.alloc | with_reducible apply Below.setCell | (with_reducible refine Below.trans ?_ (Below.mono (by assumption) ?_)) | (simp; done) | (simp; omega) | omega | with_reducible apply le_size_alloc | with_reducible apply le_size_drewN | with_reducible apply le_size_drew | with_reducible apply le_size_setCell | refine Nat.le_trans ?_ (Below.size (by assumption))))); (omega); rintro e w5 ⟨D2, d2, rfl, o5, hb5⟩
         have z4 : w3.heap.size + 1 ≤ w4.heap.size := by have := hb4.size; simp at this; omega
         have z5 : w4.heap.size ≤ w5.heap.size := hb5.size
         have hb45 : Below (w3.heap.size + 1) (w3.alloc (.cells #[.slice A1 xs.length c1, .slice A2 ys.length c2, .slice A3 rs.length c3] 25)) w5 := (by repeat' (first | with_reducible exact Below.refl _ _ | with_reducible assumption | with_reducible apply Below.drew | with_reducible apply below_drewN | with_reducible apply Below.alloc | with_reducible apply Below.setCell | (with_reducible refine Below.trans ?_ (Below.mono (by assumption) ?_)) | (simp; done) | (simp; omega) | omega | with_reducible apply le_size_alloc | with_reducible apply le_size_drewN | with_reducible apply le_size_drew | with_reducible apply le_size_setCell | refine Nat.le_trans ?_ (Below.size (by assumption))))
         have bk := BR.out.below_ hb45 (by simp)
         have k0 := (bk.cell_ 0).trans (by simp : _ = some (.slice A1 xs.length c1))
         have k1 := (bk.cell_ 1).trans (by simp : _ = some (.slice A2 ys.length c2))
         have k2 := (bk.cell_ 2).trans (by simp : _ = some (.slice A3 rs.length c3))
         have k3 := bk.frozen_ 0
         have k4 := bk.frozen_ 1
         have rs4 := RS1.out.both (w5 := w5) (hb45.mono (by simp)) ((o4.below hb5).base_ (by simp; omega)) (o5.base_ (by omega)) (fun g e => by have := (o4.block g e).1; simpa using this) (fun g e => by have := (o5.block g e).1; simp; omega) (fun g e e2 => by have h1 := (o4.block g e).2; have h2 := (o5.block g e2).1; omega)
         have RS4 := Lib.hid rs4
         clear rs4 o4 o5))
  have rs4 := RS4.out
  obtain ⟨g3, hA3, hcb, hfb, hbg, rsF⟩ := rs4.bit (f := f.toNat) (by omega) false
  have nRg : ¬ w3.heap.size = g3 := by rintro rfl; exact rs4.f3 (by rw [hA3]; rfl)
  have nRg' : ¬ g3 = w3.heap.size := fun e => nRg e.symm
  have hcb' : w5.cell? ⟨g3, f.toNat, none⟩ = some (.bool (rs.getD f.toNat false)) := by rw [← hcb, World.cell?_setCell_other _ _ _ _ (by simp), World.cell?_setCell_other _ _ _ _ (by simp)]
  have hfb' : w5.frozen? ⟨g3, f.toNat, none⟩ = false := by simpa using hfb
  subst hA3
  have RSF := Lib.hid rsF
  have b6 : Below (w.heap.size + 2) ((w.alloc (.cells #[.slice Aa xs.length ca, .slice Ai ys.length ci, .slice Ar rs.length cr] 25)).alloc (.cells #[.slice none 0 0, .slice none 0 0, .slice none 0 0] 25)) w5 := (HBL3.out.alloc (by omega) _).trans (hb45.mono (by omega))
  have HB6 := Lib.hid b6
  have q0 : w5.cell? ⟨w.heap.size + 1, 0, none⟩ = some (.slice none 0 0) := cell_keep b6 (by simp) (by simp)
  have q1 : w5.cell? ⟨w.heap.size + 1, 1, none⟩ = some (.slice none 0 0) := cell_keep b6 (by simp) (by simp)
  have q2 : w5.cell? ⟨w.heap.size + 1, 2, none⟩ = some (.slice none 0 0) := cell_keep b6 (by simp) (by simp)
  have q3 : w5.frozen? ⟨w.heap.size + 1, 0, none⟩ = false := frozen_keep b6 (by simp) (by simp)
  have q4 : w5.frozen? ⟨w.heap.size + 1, 1, none⟩ = false := frozen_keep b6 (by simp) (by simp)
  have q5 : w5.frozen? ⟨w.heap.size + 1, 2, none⟩ = false := frozen_keep b6 (by simp) (by simp)
  have nBg : ¬ w.heap.size + 1 = g3 := by omega
  clear rs4 rsF bk hcb hfb b6
  go_wp2
  unfold ListsPost
  rw [List.length_set]
  refine bodyPost_ret (v := .tuple #[.agg #[.slice D1 (wo f xs).length d1, .slice D2 (wo f ys).length d2, .slice (some ⟨g3, 0, none⟩) rs.length c3], .int .i64 0]) (by simp [results, Try.results49, go_sem, q0, q1, q2]) rfl ?_
  refine ⟨D1, d1, D2, d2, _, c3, rfl, ?_, ?_⟩
  · have o := RSF.out.own
    exact (((o.far_ _ _ (by omega)).far_ _ _ (by omega)).far_ _ _ (by omega)).base_ (by omega)
  · have hb6 : Below w.heap.size w w5 := ((Below.refl _ _).alloc (Nat.le_refl _) _ |>.alloc (by simp) _).trans (HB6.out.mono (by omega))
    exact (((((hb6.setCell (by show _ ≤ w3.heap.size; omega) _).setCell (by show _ ≤ w3.heap.size; omega) _).setCell (by show _ ≤ g3; omega) _).setCell (by show _ ≤ w.heap.size + 1; omega) _).setCell (by show _ ≤ w.heap.size + 1; omega) _).setCell (by show _ ≤ w.heap.size + 1; omega) _
theorem fWhere_mem {xs ys : List Int} {f : Int} (h1 : fWhere xs ys f ≠ 0) : f ∈ xs ++ ys := by
  unfold fWhere at h1
  by_cases hx : f ∈ xs
  · simp [hx]
  · rw [if_neg hx] at h1
    by_cases hy : f ∈ ys
    · simp [hy]
    · rw [if_neg hy] at h1; exact absurd rfl h1

section
variable (Aa Ai Ar : Option Addr) (ca ci cr : Nat) (xs ys : List Int) (rs : List Bool) (w : World) (hm : InMem w Aa Ai Ar xs ys rs)
include hm
theorem RRemove_S (f : Int) : Calls Try.prog 49 #[.agg #[.slice Aa xs.length ca, .slice Ai ys.length ci, .slice Ar rs.length cr], .int .i64 f] w (LPost (remS xs ys rs f) w) := by
  unfold remS
  by_cases h0 : lruChd xs ys rs f ≠ 0
  · rw [if_pos h0]
    exact RRemove_bad _ _ _ _ _ _ _ _ _ _ _ hm _ rfl h0
  · rw [if_neg h0]
    have h0' : lruChd xs ys rs f = 0 := by simpa using h0
    by_cases h1 : fWhere xs ys f = 0
    · rw [if_pos h1]
      exact RRemove_no _ _ _ _ _ _ _ _ _ _ _ hm h0' h1
    · rw [if_neg h1]
      obtain ⟨hk, f0, f1⟩ := chd_ok h0'
      exact (RRemove_ok _ _ _ _ _ _ _ _ _ _ _ hm _ h0' rfl h1).mono fun _ _ h => LPost.of_ok (chk_rem (valid_of_chk hk) f0) h
end

theorem lastV_ys {xs ys : List Int} {rs : List Bool} (h : lruChk xs ys rs = 0) (hy : 0 < ys.length) : lastV xs ys rs = (lastF ys, 0) := by
  unfold lastV
  rw [h, if_neg (by simp), erase_last' hy]
  rfl
theorem lastV_xs {xs ys : List Int} {rs : List Bool} (h : lruChk xs ys rs = 0) (hy : ys.length = 0) (hx : 0 < xs.length) : lastV xs ys rs = (lastF xs, 0) := by
  obtain rfl : ys = [] := List.eq_nil_of_length_eq_zero hy
  unfold lastV
  rw [h, if_neg (by simp), erase_last' hx]
  rfl
theorem lastV_none {xs ys : List Int} {rs : List Bool} (h : lruChk xs ys rs = 0) (hy : ys.length = 0) (hx : xs.length = 0) : lastV xs ys rs = (0, 6) := by
  obtain rfl : ys = [] := List.eq_nil_of_length_eq_zero hy
  obtain rfl : xs = [] := List.eq_nil_of_length_eq_zero hx
  unfold lastV
  rw [h, if_neg (by simp)]
  rfl
theorem lastF_at {xs : List Int} {k : Nat} {x : Int} (hk : k = xs.length - 1) (h : xs[k]? = some x) : lastF xs = x := by
  subst hk
  unfold lastF
  rw [List.getD_eq_getElem?_getD, h]; rfl

set_option maxHeartbeats 800000 in
theorem RLast_bad (Aa Ai Ar : Option Addr) (ca ci cr : Nat) (xs ys : List Int) (rs : List Bool) (w : World) (hm : InMem w Aa Ai Ar xs ys rs) (z : Int) (hc : lruChk xs ys rs = z) (hz : z ≠ 0) :
    Calls Try.prog 48 #[.agg #[.slice Aa xs.length ca, .slice Ai ys.length ci, .slice Ar rs.length cr]] w fun e w' => e = .returned (.tuple #[.int .i64 0, .int .i64 z]) ∧ Below w.heap.size w w' := by
  have HM := Lib.hid hm; have HC := Lib.hid hc
  have hne : (z != 0) = true := by simpa using hz
  clear hz
  clear hm hc
  go_enter Try.func48, Try.ntmps48
  go_wp2_with fail
  have hm1 := HM.out.ext (w' := w.alloc (.cells #[.slice Aa xs.length ca, .slice Ai ys.length ci, .slice Ar rs.length cr] 25)) (by repeat' (first | with_reducible exact Below.refl _ _ | with_reducible assumption | with_reducible apply Below.drew | with_reducible apply below_drewN | with_reducible apply Below.alloc | with_reducible apply Below.setCell | (with_reducible refine Below.trans ?_ (Below.mono (by assumption) ?_)) | (simp; done) | (simp; omega) | omega | with_reducible apply le_size_alloc | with_reducible apply le_size_drewN | with_reducible apply le_size_drew | with_reducible apply le_size_setCell | refine Nat.le_trans ?_ (Below.size (by assumption))))
  refine (RCheck_any _ _ _ _ _ _ _ _ _ _ hm1).mono ?_
  rw [HC.out]
  rintro e w1 ⟨rfl, hb1⟩
  have p0 : w1.cell? ⟨w.heap.size, 0, none⟩ = some (.slice Aa xs.length ca) := cell_keep hb1 (by simp) (by simp)
  have p1 : w1.cell? ⟨w.heap.size, 1, none⟩ = some (.slice Ai ys.length ci) := cell_keep hb1 (by simp) (by simp)
  have p2 : w1.cell? ⟨w.heap.size, 2, none⟩ = some (.slice Ar rs.length cr) := cell_keep hb1 (by simp) (by simp)
  go_wp2
  go_ret2
  exact ⟨rfl, (by repeat' (first | with_reducible exact Below.refl _ _ | with_reducible assumption | with_reducible apply Below.drew | with_reducible apply below_drewN | with_reducible apply Below.alloc | with_reducible apply Below.setCell | (with_reducible refine Below.trans ?_ (Below.mono (by assumption) ?_)) | (simp; done) | (simp; omega) | omega | with_reducible apply le_size_alloc | with_reducible apply le_size_drewN | with_reducible apply le_size_drew | with_reducible apply le_size_setCell | refine Nat.le_trans ?_ (Below.size (by assumption))))⟩

set_option maxHeartbeats 800000 in
theorem RLast_ys (Aa Ai Ar : Option Addr) (ca ci cr : Nat) (xs ys : List Int) (rs : List Bool) (w : World) (hm : InMem w Aa Ai Ar xs ys rs) (hc : lruChk xs ys rs = 0) (hy : 0 < ys.length) :
    Calls Try.prog 48 #[.agg #[.slice Aa xs.length ca, .slice Ai ys.length ci, .slice Ar rs.length cr]] w fun e w' => e = .returned (.tuple #[.int .i64 (lastF ys), .int .i64 0]) ∧ Below w.heap.size w w' := by
  have HM := Lib.hid hm; have HC := Lib.hid hc
  have hv := valid_of_chk hc
  have hlen := hv.len
  have hhi := hv.hi
  clear hv
  clear hm hc
  go_enter Try.func48, Try.ntmps48
  go_wp2_with fail
  have hm1 := HM.out.ext (w' := w.alloc (.cells #[.slice Aa xs.length ca, .slice Ai ys.length ci, .slice Ar rs.length cr] 25)) (by repeat' (first | with_reducible exact Below.refl _ _ | with_reducible assumption | with_reducible apply Below.drew | with_reducible apply below_drewN | with_reducible apply Below.alloc | with_reducible apply Below.setCell | (with_reducible refine Below.trans ?_ (Below.mono (by assumption) ?_)) | (simp; done) | (simp; omega) | omega | with_reducible apply le_size_alloc | with_reducible apply le_size_drewN | with_reducible apply le_size_drew | with_reducible apply le_size_setCell | refine Nat.le_trans ?_ (Below.size (by assumption))))
  refine (RCheck_any _ _ _ _ _ _ _ _ _ _ hm1).mono ?_
  rw [HC.out]
  rintro e w1 ⟨rfl, hb1⟩
  have p0 : w1.cell? ⟨w.heap.size, 0, none⟩ = some (.slice Aa xs.length ca) := cell_keep hb1 (by simp) (by simp)
  have p1 : w1.cell? ⟨w.heap.size, 1, none⟩ = some (.slice Ai ys.length ci) := cell_keep hb1 (by simp) (by simp)
  have p2 : w1.cell? ⟨w.heap.size, 2, none⟩ = some (.slice Ar rs.length cr) := cell_keep hb1 (by simp) (by simp)
  obtain ⟨b, off, x, hA, hbl, hx, hcx⟩ := (hm1.ext hb1).i.at_ (k := ys.length - 1) (by omega)
  have hlf := lastF_at rfl hx
  have t1 : (1 : Int) ≤ ys.length := by omega
  have t2 : (((ys.length : Nat) : Int) - 1).toNat = ys.length - 1 := by omega
  have HLF := Lib.hid hlf
  subst hA
  clear hlf hx
  go_wp2
  go_ret2
  exact ⟨by rw [HLF.out]; rfl, (by repeat' (first | with_reducible exact Below.refl _ _ | with_reducible assumption | with_reducible apply Below.drew | with_reducible apply below_drewN | with_reducible apply Below.alloc | with_reducible apply Below.setCell | (with_reducible refine Below.trans ?_ (Below.mono (by assumption) ?_)) | (simp; done) | (simp; omega) | omega | with_reducible apply le_size_alloc | with_reducible apply le_size_drewN | with_reducible apply le_size_drew | with_reducible apply le_size_setCell | refine Nat.le_trans ?_ (Below.size (by assumption))))⟩

set_option maxHeartbeats 800000 in
theorem RLast_xs (Aa Ai Ar : Option Addr) (ca ci cr : Nat) (xs ys : List Int) (rs : List Bool) (w : World) (hm : InMem w Aa Ai Ar xs ys rs) (hc : lruChk xs ys rs = 0) (hy : ys.length ≤ 0) (hx0 : 0 < xs.length) :
    Calls Try.prog 48 #[.agg #[.slice Aa xs.length ca, .slice Ai ys.length ci, .slice Ar rs.length cr]] w fun e w' => e = .returned (.tuple #[.int .i64 (lastF xs), .int .i64 0]) ∧ Below w.heap.size w w' := by
  have HM := Lib.hid hm; have HC := Lib.hid hc
  have hv := valid_of_chk hc
  have hlen := hv.len
  have hhi := hv.hi
  clear hv
  clear hm hc
  go_enter Try.func48, Try.ntmps48
  go_wp2_with fail
  have hm1 := HM.out.ext (w' := w.alloc (.cells #[.slice Aa xs.length ca, .slice Ai ys.length ci, .slice Ar rs.length cr] 25)) (by repeat' (first | with_reducible exact Below.refl _ _ | with_reducible assumption | with_reducible apply Below.drew | with_reducible apply below_drewN | with_reducible apply Below.alloc | with_reducible apply Below.setCell | (with_reducible refine Below.trans ?_ (Below.mono (by assumption) ?_)) | (simp; done) | (simp; omega) | omega | with_reducible apply le_size_alloc | with_reducible apply le_size_drewN | with_reducible apply le_size_drew | with_reducible apply le_size_setCell | refine Nat.le_trans ?_ (Below.size (by assumption))))
  refine (RCheck_any _ _ _ _ _ _ _ _ _ _ hm1).mono ?_
  rw [HC.out]
  rintro e w1 ⟨rfl, hb1⟩
  have p0 : w1.cell? ⟨w.heap.size, 0, none⟩ = some (.slice Aa xs.length ca) := cell_keep hb1 (by simp) (by simp)
  have p1 : w1.cell? ⟨w.heap.size, 1, none⟩ = some (.slice Ai ys.length ci) := cell_keep hb1 (by simp) (by simp)
  have p2 : w1.cell? ⟨w.heap.size, 2, none⟩ = some (.slice Ar rs.length cr) := cell_keep hb1 (by simp) (by simp)
  obtain ⟨b, off, x, hA, hbl, hx, hcx⟩ := (hm1.ext hb1).a.at_ (k := xs.length - 1) (by omega)
  have hlf := lastF_at rfl hx
  have t1 : (1 : Int) ≤ xs.length := by omega
  have t2 : (((xs.length : Nat) : Int) - 1).toNat = xs.length - 1 := by omega
  have HLF := Lib.hid hlf
  subst hA
  clear hlf hx
  go_wp2
  go_ret2
  exact ⟨by rw [HLF.out]; rfl, (by repeat' (first | with_reducible exact Below.refl _ _ | with_reducible assumption | with_reducible apply Below.drew | with_reducible apply below_drewN | with_reducible apply Below.alloc | with_reducible apply Below.setCell | (with_reducible refine Below.trans ?_ (Below.mono (by assumption) ?_)) | (simp; done) | (simp; omega) | omega | with_reducible apply le_size_alloc | with_reducible apply le_size_drewN | with_reducible apply le_size_drew | with_reducible apply le_size_setCell | refine Nat.le_trans ?_ (Below.size (by assumption))))⟩

set_option maxHeartbeats 800000 in
theorem RLast_none (Aa Ai Ar : Option Addr) (ca ci cr : Nat) (xs ys : List Int) (rs : List Bool) (w : World) (hm : InMem w Aa Ai Ar xs ys rs) (hc : lruChk xs ys rs = 0) (hy : ys.length ≤ 0) (hx0 : xs.length ≤ 0) :
    Calls Try.prog 48 #[.agg #[.slice Aa xs.length ca, .slice Ai ys.length ci, .slice Ar rs.length cr]] w fun e w' => e = .returned (.tuple #[.int .i64 0, .int .i64 6]) ∧ Below w.heap.size w w' := by
  have HM := Lib.hid hm; have HC := Lib.hid hc
  clear hm hc
  go_enter Try.func48, Try.ntmps48
  go_wp2_with fail
  have hm1 := HM.out.ext (w' := w.alloc (.cells #[.slice Aa xs.length ca, .slice Ai ys.length ci, .slice Ar rs.length cr] 25)) (by repeat' (first | with_reducible exact Below.refl _ _ | with_reducible assumption | with_reducible apply Below.drew | with_reducible apply below_drewN | with_reducible apply Below.alloc | with_reducible apply Below.setCell | (with_reducible refine Below.trans ?_ (Below.mono (by assumption) ?_)) | (simp; done) | (simp; omega) | omega | with_reducible apply le_size_alloc | with_reducible apply le_size_drewN | with_reducible apply le_size_drew | with_reducible apply le_size_setCell | refine Nat.le_trans ?_ (Below.size (by assumption))))
  refine (RCheck_any _ _ _ _ _ _ _ _ _ _ hm1).mono ?_
  rw [HC.out]
  rintro e w1 ⟨rfl, hb1⟩
  have p0 : w1.cell? ⟨w.heap.size, 0, none⟩ = some (.slice Aa xs.length ca) := cell_keep hb1 (by simp) (by simp)
  have p1 : w1.cell? ⟨w.heap.size, 1, none⟩ = some (.slice Ai ys.length ci) := cell_keep hb1 (by simp) (by simp)
  have p2 : w1.cell? ⟨w.heap.size, 2, none⟩ = some (.slice Ar rs.length cr) := cell_keep hb1 (by simp) (by simp)
  go_wp2
  go_ret2
  exact ⟨rfl, (by repeat' (first | with_reducible exact Below.refl _ _ | with_reducible assumption | with_reducible apply Below.drew | with_reducible apply below_drewN | with_reducible apply Below.alloc | with_reducible apply Below.setCell | (with_reducible refine Below.trans ?_ (Below.mono (by assumption) ?_)) | (simp; done) | (simp; omega) | omega | with_reducible apply le_size_alloc | with_reducible apply le_size_drewN | with_reducible apply le_size_drew | with_reducible apply le_size_setCell | refine Nat.le_trans ?_ (Below.size (by assumption))))⟩

theorem RLast_S (Aa Ai Ar : Option Addr) (ca ci cr : Nat) (xs ys : List Int) (rs : List Bool) (w : World) (hm : InMem w Aa Ai Ar xs ys rs) : Calls Try.prog 48 #[.agg #[.slice Aa xs.length ca, .slice Ai ys.length ci, .slice Ar rs.length cr]] w fun e w' =>
    e = .returned (.tuple #[.int .i64 (lastV xs ys rs).1, .int .i64 (lastV xs ys rs).2]) ∧ Below w.heap.size w w' := by
  by_cases h0 : lruChk xs ys rs ≠ 0
  · unfold lastV
    rw [if_pos h0]
    exact RLast_bad _ _ _ _ _ _ _ _ _ _ hm _ rfl h0
  · have h0' : lruChk xs ys rs = 0 := by simpa using h0
    by_cases hy : 0 < ys.length
    · rw [lastV_ys h0' hy]
      exact RLast_ys _ _ _ _ _ _ _ _ _ _ hm h0' hy
    · by_cases hx : 0 < xs.length
      · rw [lastV_xs h0' (by omega) hx]
        exact RLast_xs _ _ _ _ _ _ _ _ _ _ hm h0' (by omega) hx
      · rw [lastV_none h0' (by omega) (by omega)]
        exact RLast_none _ _ _ _ _ _ _ _ _ _ hm h0' (by omega) (by omega)
end Go.Proofs.Ytiobbdfkimpfbaa
