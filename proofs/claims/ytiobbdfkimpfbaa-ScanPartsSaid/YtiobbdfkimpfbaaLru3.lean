/- Contracts of lru.Demote and lru.Promote. -/
import Derived.Test.YtiobbdfkimpfbaaLru2
namespace Go.Proofs.Ytiobbdfkimpfbaa
set_option linter.unusedSimpArgs false
set_option linter.unusedVariables false
open Go.RowKit Go.Maps

/-- What is needed to know of lists in memory. -/
structure InMem (w : World) (Aa Ai Ar : Option Addr) (xs ys : List Int) (rs : List Bool) : Prop where
  a : Sl w (.int .i64) Aa xs
  i : Sl w (.int .i64) Ai ys
  r : Sl w .bool Ar rs
  la : xs.length ≤ 140737488351232
  li : ys.length ≤ 140737488351232
  lr : rs.length ≤ 140737488351232
  wa : ∀ x ∈ xs, (Lit.int .i64 x).wf = true
  wi : ∀ x ∈ ys, (Lit.int .i64 x).wf = true
theorem InMem.ext {w w' : World} {Aa Ai Ar : Option Addr} {xs ys : List Int} {rs : List Bool} (h : InMem w Aa Ai Ar xs ys rs) (hb : Below w.heap.size w w') : InMem w' Aa Ai Ar xs ys rs :=
  ⟨h.a.ext hb, h.i.ext hb, h.r.ext hb, h.la, h.li, h.lr, h.wa, h.wi⟩
theorem InMem.check {w : World} {Aa Ai Ar : Option Addr} {xs ys : List Int} {rs : List Bool} (h : InMem w Aa Ai Ar xs ys rs) (ca ci cr : Nat) :
    Calls Try.prog 32 #[.agg #[.slice Aa xs.length ca, .slice Ai ys.length ci, .slice Ar rs.length cr]] w fun e w' =>
      e = .returned (.int .i64 (lruChk xs ys rs)) ∧ Below w.heap.size w w' :=
  Check_any Aa Ai Ar ca ci cr xs ys rs w h.a h.i h.r h.la h.li h.lr h.wa h.wi

def dX (xs _ys : List Int) : List Int := xs.eraseIdx (xs.length - 1)
def dY (xs ys : List Int) : List Int := xs.getD (xs.length - 1) 0 :: ys
def pX (xs ys : List Int) : List Int := ys.getD (ys.length - 1) 0 :: xs
def pY (_xs ys : List Int) : List Int := ys.eraseIdx (ys.length - 1)

set_option maxHeartbeats 400000 in
theorem Demote_bad (Aa Ai Ar : Option Addr) (ca ci cr : Nat) (xs ys : List Int) (rs : List Bool) (z : Int) (w : World) (hm : InMem w Aa Ai Ar xs ys rs) (hc : lruChk xs ys rs = z) (hz : z ≠ 0) :
    Calls Try.prog 82 #[.agg #[.slice Aa xs.length ca, .slice Ai ys.length ci, .slice Ar rs.length cr]] w fun e w' => e = .returned (.tuple #[.agg #[.slice none 0 0, .slice none 0 0, .slice none 0 0], .int .i64 0, .int .i64 z]) ∧ Below w.heap.size w w' := by
  have HM := Lib.hid hm; have HC := Lib.hid hc
  clear hm hc
  have hne : (z != 0) = true := by simpa using hz
  clear hz
  go_enter Try.func82, Try.ntmps82
  go_wp2_with fail
  have hm1 := HM.out.ext (w' := ((w.alloc (.cells #[.slice Aa xs.length ca, .slice Ai ys.length ci, .slice Ar rs.length cr] 25)).alloc (.cells #[.slice none 0 0, .slice none 0 0, .slice none 0 0] 25))) (by repeat' (first | with_reducible exact Below.refl _ _ | with_reducible assumption | with_reducible apply Below.drew | with_reducible apply below_drewN | with_reducible apply Below.alloc | with_reducible apply Below.setCell | (with_reducible refine Below.trans ?_ (Below.mono (by assumption) ?_)) | (simp; done) | (simp; omega) | omega | with_reducible apply le_size_alloc | with_reducible apply le_size_drewN | with_reducible apply le_size_drew | with_reducible apply le_size_setCell | refine Nat.le_trans ?_ (Below.size (by assumption))))
  refine (hm1.check _ _ _).mono ?_
  rw [HC.out]
  rintro e w1 ⟨rfl, hb1⟩
  have hbl : Below (w.heap.size + 2) ((w.alloc (.cells #[.slice Aa xs.length ca, .slice Ai ys.length ci, .slice Ar rs.length cr] 25)).alloc (.cells #[.slice none 0 0, .slice none 0 0, .slice none 0 0] 25)) w1 := (by repeat' (first | with_reducible exact Below.refl _ _ | with_reducible assumption | with_reducible apply Below.drew | with_reducible apply below_drewN | with_reducible apply Below.alloc | with_reducible apply Below.setCell | (with_reducible refine Below.trans ?_ (Below.mono (by assumption) ?_)) | (simp; done) | (simp; omega) | omega | with_reducible apply le_size_alloc | with_reducible apply le_size_drewN | with_reducible apply le_size_drew | with_reducible apply le_size_setCell | refine Nat.le_trans ?_ (Below.size (by assumption))))
  have q0 : w1.cell? ⟨w.heap.size + 1, 0, none⟩ = some (.slice none 0 0) := cell_keep hbl (by simp) (by simp)
  have q1 : w1.cell? ⟨w.heap.size + 1, 1, none⟩ = some (.slice none 0 0) := cell_keep hbl (by simp) (by simp)
  have q2 : w1.cell? ⟨w.heap.size + 1, 2, none⟩ = some (.slice none 0 0) := cell_keep hbl (by simp) (by simp)
  have q3 : w1.frozen? ⟨w.heap.size + 1, 0, none⟩ = false := frozen_keep hbl (by simp) (by simp)
  have q4 : w1.frozen? ⟨w.heap.size + 1, 1, none⟩ = false := frozen_keep hbl (by simp) (by simp)
  have q5 : w1.frozen? ⟨w.heap.size + 1, 2, none⟩ = false := frozen_keep hbl (by simp) (by simp)
  go_wp2
  refine bodyPost_ret (v := .tuple #[.agg #[.slice none 0 0, .slice none 0 0, .slice none 0 0], .int .i64 0, .int .i64 z]) (by simp [results, Try.results82, go_sem, q0, q1, q2]) rfl ?_
  exact ⟨rfl, (by repeat' (first | with_reducible exact Below.refl _ _ | with_reducible assumption | with_reducible apply Below.drew | with_reducible apply below_drewN | with_reducible apply Below.alloc | with_reducible apply Below.setCell | (with_reducible refine Below.trans ?_ (Below.mono (by assumption) ?_)) | (simp; done) | (simp; omega) | omega | with_reducible apply le_size_alloc | with_reducible apply le_size_drewN | with_reducible apply le_size_drew | with_reducible apply le_size_setCell | refine Nat.le_trans ?_ (Below.size (by assumption))))⟩

set_option maxHeartbeats 400000 in
theorem Demote_none (Aa Ai Ar : Option Addr) (ca ci cr : Nat) (xs ys : List Int) (rs : List Bool) (w : World) (hm : InMem w Aa Ai Ar xs ys rs) (hc : lruChk xs ys rs = 0) (h0 : xs.length ≤ 0) :
    Calls Try.prog 82 #[.agg #[.slice Aa xs.length ca, .slice Ai ys.length ci, .slice Ar rs.length cr]] w fun e w' => e = .returned (.tuple #[.agg #[.slice none 0 0, .slice none 0 0, .slice none 0 0], .int .i64 0, .int .i64 6]) ∧ Below w.heap.size w w' := by
  have HM := Lib.hid hm; have HC := Lib.hid hc
  clear hm hc
  go_enter Try.func82, Try.ntmps82
  go_wp2_with fail
  have hm1 := HM.out.ext (w' := ((w.alloc (.cells #[.slice Aa xs.length ca, .slice Ai ys.length ci, .slice Ar rs.length cr] 25)).alloc (.cells #[.slice none 0 0, .slice none 0 0, .slice none 0 0] 25))) (by repeat' (first | with_reducible exact Below.refl _ _ | with_reducible assumption | with_reducible apply Below.drew | with_reducible apply below_drewN | with_reducible apply Below.alloc | with_reducible apply Below.setCell | (with_reducible refine Below.trans ?_ (Below.mono (by assumption) ?_)) | (simp; done) | (simp; omega) | omega | with_reducible apply le_size_alloc | with_reducible apply le_size_drewN | with_reducible apply le_size_drew | with_reducible apply le_size_setCell | refine Nat.le_trans ?_ (Below.size (by assumption))))
  refine (hm1.check _ _ _).mono ?_
  rw [HC.out]
  rintro e w1 ⟨rfl, hb1⟩
  have hbl : Below (w.heap.size + 2) ((w.alloc (.cells #[.slice Aa xs.length ca, .slice Ai ys.length ci, .slice Ar rs.length cr] 25)).alloc (.cells #[.slice none 0 0, .slice none 0 0, .slice none 0 0] 25)) w1 := (by repeat' (first | with_reducible exact Below.refl _ _ | with_reducible assumption | with_reducible apply Below.drew | with_reducible apply below_drewN | with_reducible apply Below.alloc | with_reducible apply Below.setCell | (with_reducible refine Below.trans ?_ (Below.mono (by assumption) ?_)) | (simp; done) | (simp; omega) | omega | with_reducible apply le_size_alloc | with_reducible apply le_size_drewN | with_reducible apply le_size_drew | with_reducible apply le_size_setCell | refine Nat.le_trans ?_ (Below.size (by assumption))))
  have p0 : w1.cell? ⟨w.heap.size, 0, none⟩ = some (.slice Aa xs.length ca) := cell_keep hbl (by simp) (by simp)
  have q0 : w1.cell? ⟨w.heap.size + 1, 0, none⟩ = some (.slice none 0 0) := cell_keep hbl (by simp) (by simp)
  have q1 : w1.cell? ⟨w.heap.size + 1, 1, none⟩ = some (.slice none 0 0) := cell_keep hbl (by simp) (by simp)
  have q2 : w1.cell? ⟨w.heap.size + 1, 2, none⟩ = some (.slice none 0 0) := cell_keep hbl (by simp) (by simp)
  have q3 : w1.frozen? ⟨w.heap.size + 1, 0, none⟩ = false := frozen_keep hbl (by simp) (by simp)
  have q4 : w1.frozen? ⟨w.heap.size + 1, 1, none⟩ = false := frozen_keep hbl (by simp) (by simp)
  have q5 : w1.frozen? ⟨w.heap.size + 1, 2, none⟩ = false := frozen_keep hbl (by simp) (by simp)
  go_wp2
  refine bodyPost_ret (v := .tuple #[.agg #[.slice none 0 0, .slice none 0 0, .slice none 0 0], .int .i64 0, .int .i64 6]) (by simp [results, Try.results82, go_sem, q0, q1, q2]) rfl ?_
  exact ⟨rfl, (by repeat' (first | with_reducible exact Below.refl _ _ | with_reducible assumption | with_reducible apply Below.drew | with_reducible apply below_drewN | with_reducible apply Below.alloc | with_reducible apply Below.setCell | (with_reducible refine Below.trans ?_ (Below.mono (by assumption) ?_)) | (simp; done) | (simp; omega) | omega | with_reducible apply le_size_alloc | with_reducible apply le_size_drewN | with_reducible apply le_size_drew | with_reducible apply le_size_setCell | refine Nat.le_trans ?_ (Below.size (by assumption))))⟩

/-- What Demote leaves where there is a frame to be moved. -/
def DemotePost (xs ys : List Int) (rs : List Bool) (w : World) (e : Ending) (w' : World) : Prop :=
  ∃ A1 c1 A2 c2 A3 c3, e = .returned (.tuple #[.agg #[.slice A1 (dX xs ys).length c1, .slice A2 (dY xs ys).length c2, .slice A3 (rs.set (xs.getD (xs.length - 1) 0).toNat false).length c3], .int .i64 (xs.getD (xs.length - 1) 0), .int .i64 0]) ∧
    OwnL w' w.heap.size A1 c1 A2 c2 A3 c3 (dX xs ys) (dY xs ys) (rs.set (xs.getD (xs.length - 1) 0).toNat false) ∧ Below w.heap.size w w'

set_option maxRecDepth 100000 in
set_option maxHeartbeats 2000000 in
theorem Demote_ok (Aa Ai Ar : Option Addr) (ca ci cr : Nat) (xs ys : List Int) (rs : List Bool) (w : World) (hm : InMem w Aa Ai Ar xs ys rs) (hc : lruChk xs ys rs = 0) (h0 : 0 < xs.length) :
    Calls Try.prog 82 #[.agg #[.slice Aa xs.length ca, .slice Ai ys.length ci, .slice Ar rs.length cr]] w (DemotePost xs ys rs w) := by
  have hv := valid_of_chk hc
  have hlen := hv.len
  have hhi := hv.hi
  obtain ⟨x, hxx⟩ : ∃ x, x = xs.getD (xs.length - 1) 0 := ⟨_, rfl⟩
  have hxm : x ∈ xs := by
    rw [hxx, List.getD_eq_getElem?_getD, List.getElem?_eq_getElem (by omega)]
    exact List.getElem_mem _
  obtain ⟨hx1, hx2⟩ := hv.range x (by simp [hxm])
  have HXX := Lib.hid hxx; have HV := Lib.hid hv
  clear hxx hv hxm
  have HM := Lib.hid hm; have HC := Lib.hid hc
  clear hm hc
  go_enter Try.func82, Try.ntmps82
  go_wp2_with fail
  have hm1 := HM.out.ext (w' := ((w.alloc (.cells #[.slice Aa xs.length ca, .slice Ai ys.length ci, .slice Ar rs.length cr] 25)).alloc (.cells #[.slice none 0 0, .slice none 0 0, .slice none 0 0] 25))) (by repeat' (first | with_reducible exact Below.refl _ _ | with_reducible assumption | with_reducible apply Below.drew | with_reducible apply below_drewN | with_reducible apply Below.alloc | with_reducible apply Below.setCell | (with_reducible refine Below.trans ?_ (Below.mono (by assumption) ?_)) | (simp; done) | (simp; omega) | omega | with_reducible apply le_size_alloc | with_reducible apply le_size_drewN | with_reducible apply le_size_drew | with_reducible apply le_size_setCell | refine Nat.le_trans ?_ (Below.size (by assumption))))
  refine (hm1.check _ _ _).mono ?_
  rw [HC.out]
  rintro e w1 ⟨rfl, hb1⟩
  have hbl : Below (w.heap.size + 2) ((w.alloc (.cells #[.slice Aa xs.length ca, .slice Ai ys.length ci, .slice Ar rs.length cr] 25)).alloc (.cells #[.slice none 0 0, .slice none 0 0, .slice none 0 0] 25)) w1 := (by repeat' (first | with_reducible exact Below.refl _ _ | with_reducible assumption | with_reducible apply Below.drew | with_reducible apply below_drewN | with_reducible apply Below.alloc | with_reducible apply Below.setCell | (with_reducible refine Below.trans ?_ (Below.mono (by assumption) ?_)) | (simp; done) | (simp; omega) | omega | with_reducible apply le_size_alloc | with_reducible apply le_size_drewN | with_reducible apply le_size_drew | with_reducible apply le_size_setCell | refine Nat.le_trans ?_ (Below.size (by assumption))))
  have p0 : w1.cell? ⟨w.heap.size, 0, none⟩ = some (.slice Aa xs.length ca) := cell_keep hbl (by simp) (by simp)
  have p1 : w1.cell? ⟨w.heap.size, 1, none⟩ = some (.slice Ai ys.length ci) := cell_keep hbl (by simp) (by simp)
  have p2 : w1.cell? ⟨w.heap.size, 2, none⟩ = some (.slice Ar rs.length cr) := cell_keep hbl (by simp) (by simp)
  go_wp2_with fail
  have hm2 := hm1.ext hb1
  refine (copied_any _ _ _ _ _ _ _ _ _ _ hm2.a hm2.i hm2.r (by omega) (by omega) (by omega)).mono ?_
  rintro e w2 ⟨A1, c1, A2, c2, A3, c3, rfl, hL, hb2⟩
  clear p0 p1 p2 hm1 hm2
  have HB2 : Hid (Below w.heap.size w w2) := by
    show Below _ _ _
    exact (by repeat' (first | with_reducible exact Below.refl _ _ | with_reducible assumption | with_reducible apply Below.drew | with_reducible apply below_drewN | with_reducible apply Below.alloc | with_reducible apply Below.setCell | (with_reducible refine Below.trans ?_ (Below.mono (by assumption) ?_)) | (simp; done) | (simp; omega) | omega | with_reducible apply le_size_alloc | with_reducible apply le_size_drewN | with_reducible apply le_size_drew | with_reducible apply le_size_setCell | refine Nat.le_trans ?_ (Below.size (by assumption))))
  have Z1 := hb1.size
  have hbl2 : Below (w.heap.size + 2) ((w.alloc (.cells #[.slice Aa xs.length ca, .slice Ai ys.length ci, .slice Ar rs.length cr] 25)).alloc (.cells #[.slice none 0 0, .slice none 0 0, .slice none 0 0] 25)) w2 := (by repeat' (first | with_reducible exact Below.refl _ _ | with_reducible assumption | with_reducible apply Below.drew | with_reducible apply below_drewN | with_reducible apply Below.alloc | with_reducible apply Below.setCell | (with_reducible refine Below.trans ?_ (Below.mono (by assumption) ?_)) | (simp; done) | (simp; omega) | omega | with_reducible apply le_size_alloc | with_reducible apply le_size_drewN | with_reducible apply le_size_drew | with_reducible apply le_size_setCell | refine Nat.le_trans ?_ (Below.size (by assumption))))
  clear hb1 hbl
  go_wp2_with fail
  have rs1 := RS.start hL
  have s1 : w1.heap.size ≤ w2.heap.size := hb2.size
  clear hL
  have s0 : w.heap.size + 2 ≤ w1.heap.size := by have := Z1; simp at this; omega
  obtain ⟨zs, hzs⟩ : ∃ zs, zs = xs.eraseIdx (xs.length - 1) := ⟨_, rfl⟩
  have HZS := Lib.hid hzs
  clear hzs
  refine (pop_any w2.heap.size 0 w1.heap.size A1 c1 xs _ ((rs1.blk.cell_ 0).trans (by simp)) (rs1.blk.frozen_ _) rs1.own.a rs1.f1 h0 (by omega)).mono ?_
  rintro e w3' ⟨A', c', w3, he, hw, hg3, ho3, hl3⟩
  rw [← HXX.out] at he
  rw [← HZS.out] at hw ho3
  subst he hw
  have rs2 := rs1.act hg3 ho3 hl3
  have b3 : Below (w.heap.size + 2) (w2.alloc (.cells #[.slice A1 xs.length c1, .slice A2 ys.length c2, .slice A3 rs.length c3] 25)) w3 :=
    (Below.refl _ _).grown hg3 (by simp; omega) (fun k hk => by have := (rs1.own.a.block k hk).1; omega)
  have z3 : w2.heap.size < w3.heap.size := by have := hg3.size; simp at this; omega
  clear rs1 hg3 ho3 hl3
  have k1 := (rs2.blk.cell_ 1).trans (by simp : _ = some (.slice A2 ys.length c2))
  go_wp2_with fail
  have rs3 := rs2.ext ((Below.refl _ _).alloc (Nat.le_refl _) (.cells #[.int .i64 x] 3))
  obtain ⟨vs, hvs⟩ : ∃ vs, vs = x :: ys := ⟨_, rfl⟩
  have HVS := Lib.hid hvs
  clear hvs
  refine (Insert0_any (.slice A2 ys.length c2) ys x w1.heap.size w3.heap.size _ rs3.own.i (by simp [World.setCell]; omega) (by omega) (Blk.new_ (by simp [World.setCell]) rfl) (fun e => by
    rw [ownBlock_slice] at e
    have := (rs2.own.i.block _ e).2
    simp [World.setCell] at this)).mono ?_
  rintro e w5 ⟨A5, c5, he, ho5, hg5, hl5⟩
  rw [← HVS.out] at he ho5 hl5
  subst he
  rw [ownBlock_slice] at hg5 hl5
  rw [ownBlock_slice] at hl5
  have rs4 := rs3.inact hg5 ho5 hl5
  have b5 : Below (w.heap.size + 2) ((w3.setCell ⟨w2.heap.size, 0, none⟩ (.slice A' zs.length c')).alloc (.cells #[.int .i64 x] 3)) w5 :=
    (Below.refl _ _).grown hg5 (by simp [World.setCell]; omega) (fun k hk => by have := (rs3.own.i.block k hk).1; omega)
  have bk := blk_grown rs3.blk hg5 rs3.f2
  have k2 := (bk.cell_ 1).trans (by simp : _ = some (.slice A2 ys.length c2))
  have k3 := bk.frozen_ 1
  have k4 := (bk.cell_ 2).trans (by simp : _ = some (.slice A3 rs.length c3))
  have k5 := (bk.cell_ 0).trans (by simp : _ = some (.slice A' zs.length c'))
  obtain ⟨g3, hA3, hcb, hfb, hbg, rs5⟩ := rs4.bit (f := x.toNat) (by omega) false
  have nRg : ¬ w2.heap.size = g3 := by rintro rfl; exact rs4.f3 (by rw [hA3]; rfl)
  have nRg' : ¬ g3 = w2.heap.size := fun e => nRg e.symm
  have nBR : ¬ w.heap.size + 1 = w2.heap.size := by omega
  have nBg : ¬ w.heap.size + 1 = g3 := by omega
  have hcb' : w5.cell? ⟨g3, x.toNat, none⟩ = some (.bool (rs.getD x.toNat false)) := by rw [← hcb, World.cell?_setCell_other _ _ _ _ (by simp)]
  have hfb' : w5.frozen? ⟨g3, x.toNat, none⟩ = false := by simpa using hfb
  have b6 : Below (w.heap.size + 2) ((w.alloc (.cells #[.slice Aa xs.length ca, .slice Ai ys.length ci, .slice Ar rs.length cr] 25)).alloc (.cells #[.slice none 0 0, .slice none 0 0, .slice none 0 0] 25)) w5 := ((hbl2.alloc (by omega) _).trans b3 |>.setCell (by show _ ≤ w2.heap.size; omega) _ |>.alloc (by simp [World.setCell]; omega) _).trans b5
  have q0 : w5.cell? ⟨w.heap.size + 1, 0, none⟩ = some (.slice none 0 0) := cell_keep b6 (by simp) (by simp)
  have q1 : w5.cell? ⟨w.heap.size + 1, 1, none⟩ = some (.slice none 0 0) := cell_keep b6 (by simp) (by simp)
  have q2 : w5.cell? ⟨w.heap.size + 1, 2, none⟩ = some (.slice none 0 0) := cell_keep b6 (by simp) (by simp)
  have q3 : w5.frozen? ⟨w.heap.size + 1, 0, none⟩ = false := frozen_keep b6 (by simp) (by simp)
  have q4 : w5.frozen? ⟨w.heap.size + 1, 1, none⟩ = false := frozen_keep b6 (by simp) (by simp)
  have q5 : w5.frozen? ⟨w.heap.size + 1, 2, none⟩ = false := frozen_keep b6 (by simp) (by simp)
  subst hA3
  have HB6 : Hid (Below w.heap.size w w5) := by
    show Below _ _ _
    exact ((Below.refl _ _).alloc (Nat.le_refl _) _ |>.alloc (by simp) _).trans (b6.mono (by omega))
  have RS5 := Lib.hid rs5
  clear rs2 rs3 hg5 ho5 hl5 bk k1 rs4 rs5 hcb hfb b6 b5 b3 hbl2
  go_wp2
  have e1 : dX xs ys = zs := HZS.out.symm
  have e2 : dY xs ys = vs := by rw [HVS.out, HXX.out]; rfl
  unfold DemotePost
  rw [e1, e2, ← HXX.out, List.length_set]
  refine bodyPost_ret (v := .tuple #[.agg #[.slice A' zs.length c', .slice A5 vs.length c5, .slice (some ⟨g3, 0, none⟩) rs.length c3], .int .i64 x, .int .i64 0]) (by simp [results, Try.results82, go_sem, q0, q1, q2]) rfl ?_
  refine ⟨A', c', A5, c5, _, c3, rfl, ?_, ?_⟩
  · have o := RS5.out.own
    exact (((o.far_ _ _ (by omega)).far_ _ _ (by omega)).far_ _ _ (by omega)).base_ (by omega)
  · have hb6 := HB6.out
    exact (by repeat' (first | with_reducible exact Below.refl _ _ | with_reducible assumption | with_reducible apply Below.drew | with_reducible apply below_drewN | with_reducible apply Below.alloc | with_reducible apply Below.setCell | (with_reducible refine Below.trans ?_ (Below.mono (by assumption) ?_)) | (simp; done) | (simp; omega) | omega | with_reducible apply le_size_alloc | with_reducible apply le_size_drewN | with_reducible apply le_size_drew | with_reducible apply le_size_setCell | refine Nat.le_trans ?_ (Below.size (by assumption))))

set_option maxHeartbeats 400000 in
theorem Promote_bad (Aa Ai Ar : Option Addr) (ca ci cr : Nat) (xs ys : List Int) (rs : List Bool) (z : Int) (w : World) (hm : InMem w Aa Ai Ar xs ys rs) (hc : lruChk xs ys rs = z) (hz : z ≠ 0) :
    Calls Try.prog 84 #[.agg #[.slice Aa xs.length ca, .slice Ai ys.length ci, .slice Ar rs.length cr]] w fun e w' => e = .returned (.tuple #[.agg #[.slice none 0 0, .slice none 0 0, .slice none 0 0], .int .i64 0, .int .i64 z]) ∧ Below w.heap.size w w' := by
  have HM := Lib.hid hm; have HC := Lib.hid hc
  clear hm hc
  have hne : (z != 0) = true := by simpa using hz
  clear hz
  go_enter Try.func84, Try.ntmps84
  go_wp2_with fail
  have hm1 := HM.out.ext (w' := ((w.alloc (.cells #[.slice Aa xs.length ca, .slice Ai ys.length ci, .slice Ar rs.length cr] 25)).alloc (.cells #[.slice none 0 0, .slice none 0 0, .slice none 0 0] 25))) (by repeat' (first | with_reducible exact Below.refl _ _ | with_reducible assumption | with_reducible apply Below.drew | with_reducible apply below_drewN | with_reducible apply Below.alloc | with_reducible apply Below.setCell | (with_reducible refine Below.trans ?_ (Below.mono (by assumption) ?_)) | (simp; done) | (simp; omega) | omega | with_reducible apply le_size_alloc | with_reducible apply le_size_drewN | with_reducible apply le_size_drew | with_reducible apply le_size_setCell | refine Nat.le_trans ?_ (Below.size (by assumption))))
  refine (hm1.check _ _ _).mono ?_
  rw [HC.out]
  rintro e w1 ⟨rfl, hb1⟩
  have hbl : Below (w.heap.size + 2) ((w.alloc (.cells #[.slice Aa xs.length ca, .slice Ai ys.length ci, .slice Ar rs.length cr] 25)).alloc (.cells #[.slice none 0 0, .slice none 0 0, .slice none 0 0] 25)) w1 := (by repeat' (first | with_reducible exact Below.refl _ _ | with_reducible assumption | with_reducible apply Below.drew | with_reducible apply below_drewN | with_reducible apply Below.alloc | with_reducible apply Below.setCell | (with_reducible refine Below.trans ?_ (Below.mono (by assumption) ?_)) | (simp; done) | (simp; omega) | omega | with_reducible apply le_size_alloc | with_reducible apply le_size_drewN | with_reducible apply le_size_drew | with_reducible apply le_size_setCell | refine Nat.le_trans ?_ (Below.size (by assumption))))
  have q0 : w1.cell? ⟨w.heap.size + 1, 0, none⟩ = some (.slice none 0 0) := cell_keep hbl (by simp) (by simp)
  have q1 : w1.cell? ⟨w.heap.size + 1, 1, none⟩ = some (.slice none 0 0) := cell_keep hbl (by simp) (by simp)
  have q2 : w1.cell? ⟨w.heap.size + 1, 2, none⟩ = some (.slice none 0 0) := cell_keep hbl (by simp) (by simp)
  have q3 : w1.frozen? ⟨w.heap.size + 1, 0, none⟩ = false := frozen_keep hbl (by simp) (by simp)
  have q4 : w1.frozen? ⟨w.heap.size + 1, 1, none⟩ = false := frozen_keep hbl (by simp) (by simp)
  have q5 : w1.frozen? ⟨w.heap.size + 1, 2, none⟩ = false := frozen_keep hbl (by simp) (by simp)
  go_wp2
  refine bodyPost_ret (v := .tuple #[.agg #[.slice none 0 0, .slice none 0 0, .slice none 0 0], .int .i64 0, .int .i64 z]) (by simp [results, Try.results84, go_sem, q0, q1, q2]) rfl ?_
  exact ⟨rfl, (by repeat' (first | with_reducible exact Below.refl _ _ | with_reducible assumption | with_reducible apply Below.drew | with_reducible apply below_drewN | with_reducible apply Below.alloc | with_reducible apply Below.setCell | (with_reducible refine Below.trans ?_ (Below.mono (by assumption) ?_)) | (simp; done) | (simp; omega) | omega | with_reducible apply le_size_alloc | with_reducible apply le_size_drewN | with_reducible apply le_size_drew | with_reducible apply le_size_setCell | refine Nat.le_trans ?_ (Below.size (by assumption))))⟩

set_option maxHeartbeats 400000 in
theorem Promote_none (Aa Ai Ar : Option Addr) (ca ci cr : Nat) (xs ys : List Int) (rs : List Bool) (w : World) (hm : InMem w Aa Ai Ar xs ys rs) (hc : lruChk xs ys rs = 0) (h0 : ys.length ≤ 0) :
    Calls Try.prog 84 #[.agg #[.slice Aa xs.length ca, .slice Ai ys.length ci, .slice Ar rs.length cr]] w fun e w' => e = .returned (.tuple #[.agg #[.slice none 0 0, .slice none 0 0, .slice none 0 0], .int .i64 0, .int .i64 6]) ∧ Below w.heap.size w w' := by
  have HM := Lib.hid hm; have HC := Lib.hid hc
  clear hm hc
  go_enter Try.func84, Try.ntmps84
  go_wp2_with fail
  have hm1 := HM.out.ext (w' := ((w.alloc (.cells #[.slice Aa xs.length ca, .slice Ai ys.length ci, .slice Ar rs.length cr] 25)).alloc (.cells #[.slice none 0 0, .slice none 0 0, .slice none 0 0] 25))) (by repeat' (first | with_reducible exact Below.refl _ _ | with_reducible assumption | with_reducible apply Below.drew | with_reducible apply below_drewN | with_reducible apply Below.alloc | with_reducible apply Below.setCell | (with_reducible refine Below.trans ?_ (Below.mono (by assumption) ?_)) | (simp; done) | (simp; omega) | omega | with_reducible apply le_size_alloc | with_reducible apply le_size_drewN | with_reducible apply le_size_drew | with_reducible apply le_size_setCell | refine Nat.le_trans ?_ (Below.size (by assumption))))
  refine (hm1.check _ _ _).mono ?_
  rw [HC.out]
  rintro e w1 ⟨rfl, hb1⟩
  have hbl : Below (w.heap.size + 2) ((w.alloc (.cells #[.slice Aa xs.length ca, .slice Ai ys.length ci, .slice Ar rs.length cr] 25)).alloc (.cells #[.slice none 0 0, .slice none 0 0, .slice none 0 0] 25)) w1 := (by repeat' (first | with_reducible exact Below.refl _ _ | with_reducible assumption | with_reducible apply Below.drew | with_reducible apply below_drewN | with_reducible apply Below.alloc | with_reducible apply Below.setCell | (with_reducible refine Below.trans ?_ (Below.mono (by assumption) ?_)) | (simp; done) | (simp; omega) | omega | with_reducible apply le_size_alloc | with_reducible apply le_size_drewN | with_reducible apply le_size_drew | with_reducible apply le_size_setCell | refine Nat.le_trans ?_ (Below.size (by assumption))))
  have p0 : w1.cell? ⟨w.heap.size, 1, none⟩ = some (.slice Ai ys.length ci) := cell_keep hbl (by simp) (by simp)
  have q0 : w1.cell? ⟨w.heap.size + 1, 0, none⟩ = some (.slice none 0 0) := cell_keep hbl (by simp) (by simp)
  have q1 : w1.cell? ⟨w.heap.size + 1, 1, none⟩ = some (.slice none 0 0) := cell_keep hbl (by simp) (by simp)
  have q2 : w1.cell? ⟨w.heap.size + 1, 2, none⟩ = some (.slice none 0 0) := cell_keep hbl (by simp) (by simp)
  have q3 : w1.frozen? ⟨w.heap.size + 1, 0, none⟩ = false := frozen_keep hbl (by simp) (by simp)
  have q4 : w1.frozen? ⟨w.heap.size + 1, 1, none⟩ = false := frozen_keep hbl (by simp) (by simp)
  have q5 : w1.frozen? ⟨w.heap.size + 1, 2, none⟩ = false := frozen_keep hbl (by simp) (by simp)
  go_wp2
  refine bodyPost_ret (v := .tuple #[.agg #[.slice none 0 0, .slice none 0 0, .slice none 0 0], .int .i64 0, .int .i64 6]) (by simp [results, Try.results84, go_sem, q0, q1, q2]) rfl ?_
  exact ⟨rfl, (by repeat' (first | with_reducible exact Below.refl _ _ | with_reducible assumption | with_reducible apply Below.drew | with_reducible apply below_drewN | with_reducible apply Below.alloc | with_reducible apply Below.setCell | (with_reducible refine Below.trans ?_ (Below.mono (by assumption) ?_)) | (simp; done) | (simp; omega) | omega | with_reducible apply le_size_alloc | with_reducible apply le_size_drewN | with_reducible apply le_size_drew | with_reducible apply le_size_setCell | refine Nat.le_trans ?_ (Below.size (by assumption))))⟩

/-- What Promote leaves where there is a frame to be moved. -/
def PromotePost (xs ys : List Int) (rs : List Bool) (w : World) (e : Ending) (w' : World) : Prop :=
  ∃ A1 c1 A2 c2 A3 c3, e = .returned (.tuple #[.agg #[.slice A1 (pX xs ys).length c1, .slice A2 (pY xs ys).length c2, .slice A3 (rs.set (ys.getD (ys.length - 1) 0).toNat false).length c3], .int .i64 (ys.getD (ys.length - 1) 0), .int .i64 0]) ∧
    OwnL w' w.heap.size A1 c1 A2 c2 A3 c3 (pX xs ys) (pY xs ys) (rs.set (ys.getD (ys.length - 1) 0).toNat false) ∧ Below w.heap.size w w'

set_option maxRecDepth 100000 in
set_option maxHeartbeats 2000000 in
theorem Promote_ok (Aa Ai Ar : Option Addr) (ca ci cr : Nat) (xs ys : List Int) (rs : List Bool) (w : World) (hm : InMem w Aa Ai Ar xs ys rs) (hc : lruChk xs ys rs = 0) (h0 : 0 < ys.length) :
    Calls Try.prog 84 #[.agg #[.slice Aa xs.length ca, .slice Ai ys.length ci, .slice Ar rs.length cr]] w (PromotePost xs ys rs w) := by
  have hv := valid_of_chk hc
  have hlen := hv.len
  have hhi := hv.hi
  obtain ⟨x, hxx⟩ : ∃ x, x = ys.getD (ys.length - 1) 0 := ⟨_, rfl⟩
  have hxm : x ∈ ys := by
    rw [hxx, List.getD_eq_getElem?_getD, List.getElem?_eq_getElem (by omega)]
    exact List.getElem_mem _
  obtain ⟨hx1, hx2⟩ := hv.range x (by simp [hxm])
  have HXX := Lib.hid hxx; have HV := Lib.hid hv
  clear hxx hv hxm
  have HM := Lib.hid hm; have HC := Lib.hid hc
  clear hm hc
  go_enter Try.func84, Try.ntmps84
  go_wp2_with fail
  have hm1 := HM.out.ext (w' := ((w.alloc (.cells #[.slice Aa xs.length ca, .slice Ai ys.length ci, .slice Ar rs.length cr] 25)).alloc (.cells #[.slice none 0 0, .slice none 0 0, .slice none 0 0] 25))) (by repeat' (first | with_reducible exact Below.refl _ _ | with_reducible assumption | with_reducible apply Below.drew | with_reducible apply below_drewN | with_reducible apply Below.alloc | with_reducible apply Below.setCell | (with_reducible refine Below.trans ?_ (Below.mono (by assumption) ?_)) | (simp; done) | (simp; omega) | omega | with_reducible apply le_size_alloc | with_reducible apply le_size_drewN | with_reducible apply le_size_drew | with_reducible apply le_size_setCell | refine Nat.le_trans ?_ (Below.size (by assumption))))
  refine (hm1.check _ _ _).mono ?_
  rw [HC.out]
  rintro e w1 ⟨rfl, hb1⟩
  have hbl : Below (w.heap.size + 2) ((w.alloc (.cells #[.slice Aa xs.length ca, .slice Ai ys.length ci, .slice Ar rs.length cr] 25)).alloc (.cells #[.slice none 0 0, .slice none 0 0, .slice none 0 0] 25)) w1 := (by repeat' (first | with_reducible exact Below.refl _ _ | with_reducible assumption | with_reducible apply Below.drew | with_reducible apply below_drewN | with_reducible apply Below.alloc | with_reducible apply Below.setCell | (with_reducible refine Below.trans ?_ (Below.mono (by assumption) ?_)) | (simp; done) | (simp; omega) | omega | with_reducible apply le_size_alloc | with_reducible apply le_size_drewN | with_reducible apply le_size_drew | with_reducible apply le_size_setCell | refine Nat.le_trans ?_ (Below.size (by assumption))))
  have p0 : w1.cell? ⟨w.heap.size, 0, none⟩ = some (.slice Aa xs.length ca) := cell_keep hbl (by simp) (by simp)
  have p1 : w1.cell? ⟨w.heap.size, 1, none⟩ = some (.slice Ai ys.length ci) := cell_keep hbl (by simp) (by simp)
  have p2 : w1.cell? ⟨w.heap.size, 2, none⟩ = some (.slice Ar rs.length cr) := cell_keep hbl (by simp) (by simp)
  go_wp2_with fail
  have hm2 := hm1.ext hb1
  refine (copied_any _ _ _ _ _ _ _ _ _ _ hm2.a hm2.i hm2.r (by omega) (by omega) (by omega)).mono ?_
  rintro e w2 ⟨A1, c1, A2, c2, A3, c3, rfl, hL, hb2⟩
  clear p0 p1 p2 hm1 hm2
  have HB2 : Hid (Below w.heap.size w w2) := by
    show Below _ _ _
    exact (by repeat' (first | with_reducible exact Below.refl _ _ | with_reducible assumption | with_reducible apply Below.drew | with_reducible apply below_drewN | with_reducible apply Below.alloc | with_reducible apply Below.setCell | (with_reducible refine Below.trans ?_ (Below.mono (by assumption) ?_)) | (simp; done) | (simp; omega) | omega | with_reducible apply le_size_alloc | with_reducible apply le_size_drewN | with_reducible apply le_size_drew | with_reducible apply le_size_setCell | refine Nat.le_trans ?_ (Below.size (by assumption))))
  have Z1 := hb1.size
  have hbl2 : Below (w.heap.size + 2) ((w.alloc (.cells #[.slice Aa xs.length ca, .slice Ai ys.length ci, .slice Ar rs.length cr] 25)).alloc (.cells #[.slice none 0 0, .slice none 0 0, .slice none 0 0] 25)) w2 := (by repeat' (first | with_reducible exact Below.refl _ _ | with_reducible assumption | with_reducible apply Below.drew | with_reducible apply below_drewN | with_reducible apply Below.alloc | with_reducible apply Below.setCell | (with_reducible refine Below.trans ?_ (Below.mono (by assumption) ?_)) | (simp; done) | (simp; omega) | omega | with_reducible apply le_size_alloc | with_reducible apply le_size_drewN | with_reducible apply le_size_drew | with_reducible apply le_size_setCell | refine Nat.le_trans ?_ (Below.size (by assumption))))
  clear hb1 hbl
  go_wp2_with fail
  have rs1 := RS.start hL
  have s1 : w1.heap.size ≤ w2.heap.size := hb2.size
  clear hL
  have s0 : w.heap.size + 2 ≤ w1.heap.size := by have := Z1; simp at this; omega
  obtain ⟨zs, hzs⟩ : ∃ zs, zs = ys.eraseIdx (ys.length - 1) := ⟨_, rfl⟩
  have HZS := Lib.hid hzs
  clear hzs
  refine (pop_any w2.heap.size 1 w1.heap.size A2 c2 ys _ ((rs1.blk.cell_ 1).trans (by simp)) (rs1.blk.frozen_ _) rs1.own.i rs1.f2 h0 (by omega)).mono ?_
  rintro e w3' ⟨A', c', w3, he, hw, hg3, ho3, hl3⟩
  rw [← HXX.out] at he
  rw [← HZS.out] at hw ho3
  subst he hw
  have rs2 := rs1.inact hg3 ho3 hl3
  have b3 : Below (w.heap.size + 2) (w2.alloc (.cells #[.slice A1 xs.length c1, .slice A2 ys.length c2, .slice A3 rs.length c3] 25)) w3 :=
    (Below.refl _ _).grown hg3 (by simp; omega) (fun k hk => by have := (rs1.own.i.block k hk).1; omega)
  have z3 : w2.heap.size < w3.heap.size := by have := hg3.size; simp at this; omega
  clear rs1 hg3 ho3 hl3
  have k1 := (rs2.blk.cell_ 0).trans (by simp : _ = some (.slice A1 xs.length c1))
  go_wp2_with fail
  have rs3 := rs2.ext ((Below.refl _ _).alloc (Nat.le_refl _) (.cells #[.int .i64 x] 3))
  obtain ⟨vs, hvs⟩ : ∃ vs, vs = x :: xs := ⟨_, rfl⟩
  have HVS := Lib.hid hvs
  clear hvs
  refine (Insert0_any (.slice A1 xs.length c1) xs x w1.heap.size w3.heap.size _ rs3.own.a (by simp [World.setCell]; omega) (by omega) (Blk.new_ (by simp [World.setCell]) rfl) (fun e => by
    rw [ownBlock_slice] at e
    have := (rs2.own.a.block _ e).2
    simp [World.setCell] at this)).mono ?_
  rintro e w5 ⟨A5, c5, he, ho5, hg5, hl5⟩
  rw [← HVS.out] at he ho5 hl5
  subst he
  rw [ownBlock_slice] at hg5 hl5
  rw [ownBlock_slice] at hl5
  have rs4 := rs3.act hg5 ho5 hl5
  have b5 : Below (w.heap.size + 2) ((w3.setCell ⟨w2.heap.size, 1, none⟩ (.slice A' zs.length c')).alloc (.cells #[.int .i64 x] 3)) w5 :=
    (Below.refl _ _).grown hg5 (by simp [World.setCell]; omega) (fun k hk => by have := (rs3.own.a.block k hk).1; omega)
  have bk := blk_grown rs3.blk hg5 rs3.f1
  have k2 := (bk.cell_ 0).trans (by simp : _ = some (.slice A1 xs.length c1))
  have k3 := bk.frozen_ 0
  have k4 := (bk.cell_ 2).trans (by simp : _ = some (.slice A3 rs.length c3))
  have k5 := (bk.cell_ 1).trans (by simp : _ = some (.slice A' zs.length c'))
  obtain ⟨g3, hA3, hcb, hfb, hbg, rs5⟩ := rs4.bit (f := x.toNat) (by omega) false
  have nRg : ¬ w2.heap.size = g3 := by rintro rfl; exact rs4.f3 (by rw [hA3]; rfl)
  have nRg' : ¬ g3 = w2.heap.size := fun e => nRg e.symm
  have nBR : ¬ w.heap.size + 1 = w2.heap.size := by omega
  have nBg : ¬ w.heap.size + 1 = g3 := by omega
  have hcb' : w5.cell? ⟨g3, x.toNat, none⟩ = some (.bool (rs.getD x.toNat false)) := by rw [← hcb, World.cell?_setCell_other _ _ _ _ (by simp)]
  have hfb' : w5.frozen? ⟨g3, x.toNat, none⟩ = false := by simpa using hfb
  have b6 : Below (w.heap.size + 2) ((w.alloc (.cells #[.slice Aa xs.length ca, .slice Ai ys.length ci, .slice Ar rs.length cr] 25)).alloc (.cells #[.slice none 0 0, .slice none 0 0, .slice none 0 0] 25)) w5 := ((hbl2.alloc (by omega) _).trans b3 |>.setCell (by show _ ≤ w2.heap.size; omega) _ |>.alloc (by simp [World.setCell]; omega) _).trans b5
  have q0 : w5.cell? ⟨w.heap.size + 1, 0, none⟩ = some (.slice none 0 0) := cell_keep b6 (by simp) (by simp)
  have q1 : w5.cell? ⟨w.heap.size + 1, 1, none⟩ = some (.slice none 0 0) := cell_keep b6 (by simp) (by simp)
  have q2 : w5.cell? ⟨w.heap.size + 1, 2, none⟩ = some (.slice none 0 0) := cell_keep b6 (by simp) (by simp)
  have q3 : w5.frozen? ⟨w.heap.size + 1, 0, none⟩ = false := frozen_keep b6 (by simp) (by simp)
  have q4 : w5.frozen? ⟨w.heap.size + 1, 1, none⟩ = false := frozen_keep b6 (by simp) (by simp)
  have q5 : w5.frozen? ⟨w.heap.size + 1, 2, none⟩ = false := frozen_keep b6 (by simp) (by simp)
  subst hA3
  have HB6 : Hid (Below w.heap.size w w5) := by
    show Below _ _ _
    exact ((Below.refl _ _).alloc (Nat.le_refl _) _ |>.alloc (by simp) _).trans (b6.mono (by omega))
  have RS5 := Lib.hid rs5
  clear rs2 rs3 hg5 ho5 hl5 bk k1 rs4 rs5 hcb hfb b6 b5 b3 hbl2
  go_wp2
  have e1 : pY xs ys = zs := HZS.out.symm
  have e2 : pX xs ys = vs := by rw [HVS.out, HXX.out]; rfl
  unfold PromotePost
  rw [e1, e2, ← HXX.out, List.length_set]
  refine bodyPost_ret (v := .tuple #[.agg #[.slice A5 vs.length c5, .slice A' zs.length c', .slice (some ⟨g3, 0, none⟩) rs.length c3], .int .i64 x, .int .i64 0]) (by simp [results, Try.results84, go_sem, q0, q1, q2]) rfl ?_
  refine ⟨A5, c5, A', c', _, c3, rfl, ?_, ?_⟩
  · have o := RS5.out.own
    exact (((o.far_ _ _ (by omega)).far_ _ _ (by omega)).far_ _ _ (by omega)).base_ (by omega)
  · have hb6 := HB6.out
    exact (by repeat' (first | with_reducible exact Below.refl _ _ | with_reducible assumption | with_reducible apply Below.drew | with_reducible apply below_drewN | with_reducible apply Below.alloc | with_reducible apply Below.setCell | (with_reducible refine Below.trans ?_ (Below.mono (by assumption) ?_)) | (simp; done) | (simp; omega) | omega | with_reducible apply le_size_alloc | with_reducible apply le_size_drewN | with_reducible apply le_size_drew | with_reducible apply le_size_setCell | refine Nat.le_trans ?_ (Below.size (by assumption))))
end Go.Proofs.Ytiobbdfkimpfbaa
