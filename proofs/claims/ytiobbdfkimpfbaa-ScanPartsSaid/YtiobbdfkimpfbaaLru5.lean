/- Contracts of the package lru: Add, Remove, Touch, New. -/
import Derived.Test.YtiobbdfkimpfbaaLru4
namespace Go.Proofs.Ytiobbdfkimpfbaa
set_option linter.unusedSimpArgs false
set_option linter.unusedVariables false
open Go.RowKit Go.Maps

theorem OwnL.bit {W : World} {base : Nat} {A1 A2 A3 : Option Addr} {c1 c2 c3 : Nat} {xs ys : List Int} {rs : List Bool} (h : OwnL W base A1 c1 A2 c2 A3 c3 xs ys rs) {f : Nat} (hf : f < rs.length) (b : Bool) :
    ∃ g, A3 = some ⟨g, 0, none⟩ ∧ (W.cell? ⟨g, f, none⟩ = some (.bool (rs.getD f false))) ∧ W.frozen? ⟨g, f, none⟩ = false ∧ base ≤ g ∧ g < W.heap.size ∧ OwnL (W.setCell ⟨g, f, none⟩ (.bool b)) base A1 c1 A2 c2 A3 c3 xs ys (rs.set f b) := by
  have hs := RS.start h
  obtain ⟨g, hA, hc, hfz, hbg, _⟩ := hs.bit hf b
  have hlt := (h.r.block g (by rw [hA]; rfl)).2
  refine ⟨g, hA, ?_, ?_, hbg, hlt, ?_⟩
  · rw [← hc, World.cell?_alloc_lt _ _ _ hlt]
  · rw [← hfz]; exact (frozen_keep (B := W.heap.size) ((Below.refl _ _).alloc (Nat.le_refl _) _) rfl hlt).symm
  rcases h.r.form with ⟨_, rfl⟩ | ⟨g', cur, e, _, hh, hs', hm, hcc⟩
  · simp at hf
  injection e with e1 _ e2
  subst e1 e2
  injection hA with hA
  injection hA with hA
  subst hA
  have hlen : (rs.set f b).length = rs.length := by simp
  refine ⟨h.a.far_ _ _ (fun e => h.ar _ e rfl), h.i.far_ _ _ (fun e => h.ir _ e rfl), ?_, h.ai, h.ar, h.ir⟩
  have hk := hh.set_ f (.bool b)
  have hcs : (cur.setIfInBounds f (.bool b)).size = cur.size := by simp
  have := Own.of_blk (mk := Value.bool) (xs := rs.set f b) hk hbg (by simpa using hs') (by simpa using hm) (fun j x hx => by
    have hj := (List.getElem?_eq_some_iff.1 hx).1
    rw [hlen] at hj
    rw [List.getElem?_set] at hx
    by_cases e : f = j
    · subst e
      rw [if_pos rfl, if_pos hf] at hx
      injection hx with hx
      have hlt : f < cur.size := by omega
      rw [← hx]
      simp [hlt]
    · rw [if_neg e] at hx
      rw [Array.getElem?_setIfInBounds_ne e]
      exact hcc j x hx)
  rw [hcs] at this
  exact this
/-- New lists and no error. -/
def ListsPost (xs ys : List Int) (rs : List Bool) (w : World) (e : Ending) (w' : World) : Prop :=
  ∃ A1 c1 A2 c2 A3 c3, e = .returned (.tuple #[.agg #[.slice A1 xs.length c1, .slice A2 ys.length c2, .slice A3 rs.length c3], .int .i64 0]) ∧ OwnL w' w.heap.size A1 c1 A2 c2 A3 c3 xs ys rs ∧ Below w.heap.size w w'

set_option maxHeartbeats 400000 in
theorem Remove_bad (Aa Ai Ar : Option Addr) (ca ci cr : Nat) (xs ys : List Int) (rs : List Bool) (f z : Int) (w : World) (hm : InMem w Aa Ai Ar xs ys rs) (hc : lruChd xs ys rs f = z) (hz : z ≠ 0) :
    Calls Try.prog 47 #[.agg #[.slice Aa xs.length ca, .slice Ai ys.length ci, .slice Ar rs.length cr], .int .i64 f] w fun e w' => e = .returned (.tuple #[.agg #[.slice none 0 0, .slice none 0 0, .slice none 0 0], .int .i64 z]) ∧ Below w.heap.size w w' := by
  have HM := Lib.hid hm; have HC := Lib.hid hc
  clear hm hc
  have hne : (z != 0) = true := by simpa using hz
  clear hz
  go_enter Try.func47, Try.ntmps47
  go_wp2_with fail
  have hm1 := HM.out.ext (w' := ((w.alloc (.cells #[.slice Aa xs.length ca, .slice Ai ys.length ci, .slice Ar rs.length cr] 25)).alloc (.cells #[.slice none 0 0, .slice none 0 0, .slice none 0 0] 25))) (by repeat' (first | with_reducible exact Below.refl _ _ | with_reducible assumption | with_reducible apply Below.drew | with_reducible apply below_drewN | with_reducible apply Below.alloc | with_reducible apply Below.setCell | (with_reducible refine Below.trans ?_ (Below.mono (by assumption) ?_)) | (simp; done) | (simp; omega) | omega | with_reducible apply le_size_alloc | with_reducible apply le_size_drewN | with_reducible apply le_size_drew | with_reducible apply le_size_setCell | refine Nat.le_trans ?_ (Below.size (by assumption))))
  refine (checked_any _ _ _ _ _ _ _ _ _ _ _ hm1).mono ?_
  rw [HC.out]
  rintro e w1 ⟨rfl, hb1⟩
  have hbl1 : Below (w.heap.size + 2) ((w.alloc (.cells #[.slice Aa xs.length ca, .slice Ai ys.length ci, .slice Ar rs.length cr] 25)).alloc (.cells #[.slice none 0 0, .slice none 0 0, .slice none 0 0] 25)) w1 := (by repeat' (first | with_reducible exact Below.refl _ _ | with_reducible assumption | with_reducible apply Below.drew | with_reducible apply below_drewN | with_reducible apply Below.alloc | with_reducible apply Below.setCell | (with_reducible refine Below.trans ?_ (Below.mono (by assumption) ?_)) | (simp; done) | (simp; omega) | omega | with_reducible apply le_size_alloc | with_reducible apply le_size_drewN | with_reducible apply le_size_drew | with_reducible apply le_size_setCell | refine Nat.le_trans ?_ (Below.size (by assumption))))
  have q0 : w1.cell? ⟨w.heap.size + 1, 0, none⟩ = some (.slice none 0 0) := cell_keep hbl1 (by simp) (by simp)
  have q1 : w1.cell? ⟨w.heap.size + 1, 1, none⟩ = some (.slice none 0 0) := cell_keep hbl1 (by simp) (by simp)
  have q2 : w1.cell? ⟨w.heap.size + 1, 2, none⟩ = some (.slice none 0 0) := cell_keep hbl1 (by simp) (by simp)
  have q3 : w1.frozen? ⟨w.heap.size + 1, 0, none⟩ = false := frozen_keep hbl1 (by simp) (by simp)
  have q4 : w1.frozen? ⟨w.heap.size + 1, 1, none⟩ = false := frozen_keep hbl1 (by simp) (by simp)
  have q5 : w1.frozen? ⟨w.heap.size + 1, 2, none⟩ = false := frozen_keep hbl1 (by simp) (by simp)
  go_wp2
  refine bodyPost_ret (v := .tuple #[.agg #[.slice none 0 0, .slice none 0 0, .slice none 0 0], .int .i64 z]) (by simp [results, Try.results47, go_sem, q0, q1, q2]) rfl ?_
  exact ⟨rfl, (by repeat' (first | with_reducible exact Below.refl _ _ | with_reducible assumption | with_reducible apply Below.drew | with_reducible apply below_drewN | with_reducible apply Below.alloc | with_reducible apply Below.setCell | (with_reducible refine Below.trans ?_ (Below.mono (by assumption) ?_)) | (simp; done) | (simp; omega) | omega | with_reducible apply le_size_alloc | with_reducible apply le_size_drewN | with_reducible apply le_size_drew | with_reducible apply le_size_setCell | refine Nat.le_trans ?_ (Below.size (by assumption))))⟩

set_option maxHeartbeats 400000 in
theorem Remove_no (Aa Ai Ar : Option Addr) (ca ci cr : Nat) (xs ys : List Int) (rs : List Bool) (f wh : Int) (w : World) (hm : InMem w Aa Ai Ar xs ys rs) (hc : lruChd xs ys rs f = 0) (hwh : fWhere xs ys f = wh) (hw : wh = 0) :
    Calls Try.prog 47 #[.agg #[.slice Aa xs.length ca, .slice Ai ys.length ci, .slice Ar rs.length cr], .int .i64 f] w fun e w' => e = .returned (.tuple #[.agg #[.slice none 0 0, .slice none 0 0, .slice none 0 0], .int .i64 6]) ∧ Below w.heap.size w w' := by
  have HM := Lib.hid hm; have HC := Lib.hid hc; have HWH := Lib.hid hwh
  obtain ⟨hck, hf0, hf1⟩ := chd_ok hc
  have hv := valid_of_chk hck
  have hlen := hv.len
  have hhi := hv.hi
  obtain ⟨pl, hpl⟩ : ∃ pl, fPlace xs ys f = pl := ⟨_, rfl⟩
  have HPL := Lib.hid hpl
  clear hm hc hwh hck hv hpl
  have hne : (wh == 0) = true := by simpa using hw
  obtain rfl : wh = 0 := hw
  go_enter Try.func47, Try.ntmps47
  go_wp2_with fail
  have hm1 := HM.out.ext (w' := ((w.alloc (.cells #[.slice Aa xs.length ca, .slice Ai ys.length ci, .slice Ar rs.length cr] 25)).alloc (.cells #[.slice none 0 0, .slice none 0 0, .slice none 0 0] 25))) (by repeat' (first | with_reducible exact Below.refl _ _ | with_reducible assumption | with_reducible apply Below.drew | with_reducible apply below_drewN | with_reducible apply Below.alloc | with_reducible apply Below.setCell | (with_reducible refine Below.trans ?_ (Below.mono (by assumption) ?_)) | (simp; done) | (simp; omega) | omega | with_reducible apply le_size_alloc | with_reducible apply le_size_drewN | with_reducible apply le_size_drew | with_reducible apply le_size_setCell | refine Nat.le_trans ?_ (Below.size (by assumption))))
  refine (checked_any _ _ _ _ _ _ _ _ _ _ _ hm1).mono ?_
  rw [HC.out]
  rintro e w1 ⟨rfl, hb1⟩
  have hbl1 : Below (w.heap.size + 2) ((w.alloc (.cells #[.slice Aa xs.length ca, .slice Ai ys.length ci, .slice Ar rs.length cr] 25)).alloc (.cells #[.slice none 0 0, .slice none 0 0, .slice none 0 0] 25)) w1 := (by repeat' (first | with_reducible exact Below.refl _ _ | with_reducible assumption | with_reducible apply Below.drew | with_reducible apply below_drewN | with_reducible apply Below.alloc | with_reducible apply Below.setCell | (with_reducible refine Below.trans ?_ (Below.mono (by assumption) ?_)) | (simp; done) | (simp; omega) | omega | with_reducible apply le_size_alloc | with_reducible apply le_size_drewN | with_reducible apply le_size_drew | with_reducible apply le_size_setCell | refine Nat.le_trans ?_ (Below.size (by assumption))))
  have p0 : w1.cell? ⟨w.heap.size, 0, none⟩ = some (.slice Aa xs.length ca) := cell_keep hbl1 (by simp) (by simp)
  have p1 : w1.cell? ⟨w.heap.size, 1, none⟩ = some (.slice Ai ys.length ci) := cell_keep hbl1 (by simp) (by simp)
  have p2 : w1.cell? ⟨w.heap.size, 2, none⟩ = some (.slice Ar rs.length cr) := cell_keep hbl1 (by simp) (by simp)
  have hm2 := hm1.ext hb1
  go_wp2_with fail
  refine (find_any _ _ _ _ _ _ _ _ _ _ _ hm2.a hm2.i (by omega) (by omega)).mono ?_
  rw [HWH.out, HPL.out]
  rintro e w2 ⟨rfl, hb2⟩
  have hbl2 : Below (w.heap.size + 2) ((w.alloc (.cells #[.slice Aa xs.length ca, .slice Ai ys.length ci, .slice Ar rs.length cr] 25)).alloc (.cells #[.slice none 0 0, .slice none 0 0, .slice none 0 0] 25)) w2 := (by repeat' (first | with_reducible exact Below.refl _ _ | with_reducible assumption | with_reducible apply Below.drew | with_reducible apply below_drewN | with_reducible apply Below.alloc | with_reducible apply Below.setCell | (with_reducible refine Below.trans ?_ (Below.mono (by assumption) ?_)) | (simp; done) | (simp; omega) | omega | with_reducible apply le_size_alloc | with_reducible apply le_size_drewN | with_reducible apply le_size_drew | with_reducible apply le_size_setCell | refine Nat.le_trans ?_ (Below.size (by assumption))))
  clear p0 p1 p2 hm1
  have p0 : w2.cell? ⟨w.heap.size, 0, none⟩ = some (.slice Aa xs.length ca) := cell_keep hbl2 (by simp) (by simp)
  have p1 : w2.cell? ⟨w.heap.size, 1, none⟩ = some (.slice Ai ys.length ci) := cell_keep hbl2 (by simp) (by simp)
  have p2 : w2.cell? ⟨w.heap.size, 2, none⟩ = some (.slice Ar rs.length cr) := cell_keep hbl2 (by simp) (by simp)
  have hm3 := hm2.ext hb2
  go_wp2_with fail
  refine (copied_any _ _ _ _ _ _ _ _ _ _ hm3.a hm3.i hm3.r (by omega) (by omega) (by omega)).mono ?_
  rintro e w3 ⟨A1, c1, A2, c2, A3, c3, rfl, hL, hb3⟩
  have s2 : w.heap.size + 2 ≤ w2.heap.size := by
    have := hbl2.size
    simp at this
    exact this
  have s3 : w2.heap.size ≤ w3.heap.size := hb3.size
  have s4 : w.heap.size + 1 < w3.heap.size := by omega
  have s5 : ¬ w.heap.size + 1 = w3.heap.size := by omega
  have hbl3 : Below (w.heap.size + 2) ((w.alloc (.cells #[.slice Aa xs.length ca, .slice Ai ys.length ci, .slice Ar rs.length cr] 25)).alloc (.cells #[.slice none 0 0, .slice none 0 0, .slice none 0 0] 25)) w3 := (by repeat' (first | with_reducible exact Below.refl _ _ | with_reducible assumption | with_reducible apply Below.drew | with_reducible apply below_drewN | with_reducible apply Below.alloc | with_reducible apply Below.setCell | (with_reducible refine Below.trans ?_ (Below.mono (by assumption) ?_)) | (simp; done) | (simp; omega) | omega | with_reducible apply le_size_alloc | with_reducible apply le_size_drewN | with_reducible apply le_size_drew | with_reducible apply le_size_setCell | refine Nat.le_trans ?_ (Below.size (by assumption))))
  clear p0 p1 p2 hm2 hm3 hb1 hb2 hb3 hbl1 hbl2
  have q0 : w3.cell? ⟨w.heap.size + 1, 0, none⟩ = some (.slice none 0 0) := cell_keep hbl3 (by simp) (by simp)
  have q1 : w3.cell? ⟨w.heap.size + 1, 1, none⟩ = some (.slice none 0 0) := cell_keep hbl3 (by simp) (by simp)
  have q2 : w3.cell? ⟨w.heap.size + 1, 2, none⟩ = some (.slice none 0 0) := cell_keep hbl3 (by simp) (by simp)
  have q3 : w3.frozen? ⟨w.heap.size + 1, 0, none⟩ = false := frozen_keep hbl3 (by simp) (by simp)
  have q4 : w3.frozen? ⟨w.heap.size + 1, 1, none⟩ = false := frozen_keep hbl3 (by simp) (by simp)
  have q5 : w3.frozen? ⟨w.heap.size + 1, 2, none⟩ = false := frozen_keep hbl3 (by simp) (by simp)
  go_wp2
  refine bodyPost_ret (v := .tuple #[.agg #[.slice none 0 0, .slice none 0 0, .slice none 0 0], .int .i64 6]) (by simp [results, Try.results47, go_sem, q0, q1, q2, s4, s5]) rfl ?_
  exact ⟨rfl, (by repeat' (first | with_reducible exact Below.refl _ _ | with_reducible assumption | with_reducible apply Below.drew | with_reducible apply below_drewN | with_reducible apply Below.alloc | with_reducible apply Below.setCell | (with_reducible refine Below.trans ?_ (Below.mono (by assumption) ?_)) | (simp; done) | (simp; omega) | omega | with_reducible apply le_size_alloc | with_reducible apply le_size_drewN | with_reducible apply le_size_drew | with_reducible apply le_size_setCell | refine Nat.le_trans ?_ (Below.size (by assumption))))⟩

set_option maxRecDepth 100000 in
set_option maxHeartbeats 1000000 in
theorem Remove_ok1 (Aa Ai Ar : Option Addr) (ca ci cr : Nat) (xs ys : List Int) (rs : List Bool) (f : Int) (w : World) (hm : InMem w Aa Ai Ar xs ys rs) (hc : lruChd xs ys rs f = 0) (hwh : fWhere xs ys f = 1) (hpl0 : fPlace xs ys f = ixOf xs f) (hin : f ∈ xs) :
    Calls Try.prog 47 #[.agg #[.slice Aa xs.length ca, .slice Ai ys.length ci, .slice Ar rs.length cr], .int .i64 f] w (ListsPost (xs.eraseIdx (ixOf xs f).toNat) ys (rs.set f.toNat false) w) := by
  have hix : 0 ≤ ixOf xs f ∧ ixOf xs f < xs.length := by
    rcases ixOf_bd xs f with ⟨_, b1, b2⟩ | ⟨hn, _⟩
    · exact ⟨b1, b2⟩
    · exact absurd hin hn
  have HM := Lib.hid hm; have HC := Lib.hid hc; have HWH := Lib.hid hwh
  obtain ⟨hck, hf0, hf1⟩ := chd_ok hc
  have hv := valid_of_chk hck
  have hlen := hv.len
  have hhi := hv.hi
  have HPL := Lib.hid hpl0
  clear hm hc hwh hck hv hpl0 hin
  obtain ⟨hi0, hi1⟩ := hix
  generalize ixOf xs f = pl at *
  obtain ⟨vs, hvs⟩ : ∃ vs, vs = xs.eraseIdx pl.toNat := ⟨_, rfl⟩
  have HVS := Lib.hid hvs
  rw [← hvs]
  clear hvs
  go_enter Try.func47, Try.ntmps47
  go_wp2_with fail
  have hm1 := HM.out.ext (w' := ((w.alloc (.cells #[.slice Aa xs.length ca, .slice Ai ys.length ci, .slice Ar rs.length cr] 25)).alloc (.cells #[.slice none 0 0, .slice none 0 0, .slice none 0 0] 25))) (by repeat' (first | with_reducible exact Below.refl _ _ | with_reducible assumption | with_reducible apply Below.drew | with_reducible apply below_drewN | with_reducible apply Below.alloc | with_reducible apply Below.setCell | (with_reducible refine Below.trans ?_ (Below.mono (by assumption) ?_)) | (simp; done) | (simp; omega) | omega | with_reducible apply le_size_alloc | with_reducible apply le_size_drewN | with_reducible apply le_size_drew | with_reducible apply le_size_setCell | refine Nat.le_trans ?_ (Below.size (by assumption))))
  refine (checked_any _ _ _ _ _ _ _ _ _ _ _ hm1).mono ?_
  rw [HC.out]
  rintro e w1 ⟨rfl, hb1⟩
  have hbl1 : Below (w.heap.size + 2) ((w.alloc (.cells #[.slice Aa xs.length ca, .slice Ai ys.length ci, .slice Ar rs.length cr] 25)).alloc (.cells #[.slice none 0 0, .slice none 0 0, .slice none 0 0] 25)) w1 := (by repeat' (first | with_reducible exact Below.refl _ _ | with_reducible assumption | with_reducible apply Below.drew | with_reducible apply below_drewN | with_reducible apply Below.alloc | with_reducible apply Below.setCell | (with_reducible refine Below.trans ?_ (Below.mono (by assumption) ?_)) | (simp; done) | (simp; omega) | omega | with_reducible apply le_size_alloc | with_reducible apply le_size_drewN | with_reducible apply le_size_drew | with_reducible apply le_size_setCell | refine Nat.le_trans ?_ (Below.size (by assumption))))
  have p0 : w1.cell? ⟨w.heap.size, 0, none⟩ = some (.slice Aa xs.length ca) := cell_keep hbl1 (by simp) (by simp)
  have p1 : w1.cell? ⟨w.heap.size, 1, none⟩ = some (.slice Ai ys.length ci) := cell_keep hbl1 (by simp) (by simp)
  have p2 : w1.cell? ⟨w.heap.size, 2, none⟩ = some (.slice Ar rs.length cr) := cell_keep hbl1 (by simp) (by simp)
  have hm2 := hm1.ext hb1
  go_wp2_with fail
  refine (find_any _ _ _ _ _ _ _ _ _ _ _ hm2.a hm2.i (by omega) (by omega)).mono ?_
  rw [HWH.out, HPL.out]
  rintro e w2 ⟨rfl, hb2⟩
  have hbl2 : Below (w.heap.size + 2) ((w.alloc (.cells #[.slice Aa xs.length ca, .slice Ai ys.length ci, .slice Ar rs.length cr] 25)).alloc (.cells #[.slice none 0 0, .slice none 0 0, .slice none 0 0] 25)) w2 := (by repeat' (first | with_reducible exact Below.refl _ _ | with_reducible assumption | with_reducible apply Below.drew | with_reducible apply below_drewN | with_reducible apply Below.alloc | with_reducible apply Below.setCell | (with_reducible refine Below.trans ?_ (Below.mono (by assumption) ?_)) | (simp; done) | (simp; omega) | omega | with_reducible apply le_size_alloc | with_reducible apply le_size_drewN | with_reducible apply le_size_drew | with_reducible apply le_size_setCell | refine Nat.le_trans ?_ (Below.size (by assumption))))
  clear p0 p1 p2 hm1
  have p0 : w2.cell? ⟨w.heap.size, 0, none⟩ = some (.slice Aa xs.length ca) := cell_keep hbl2 (by simp) (by simp)
  have p1 : w2.cell? ⟨w.heap.size, 1, none⟩ = some (.slice Ai ys.length ci) := cell_keep hbl2 (by simp) (by simp)
  have p2 : w2.cell? ⟨w.heap.size, 2, none⟩ = some (.slice Ar rs.length cr) := cell_keep hbl2 (by simp) (by simp)
  have hm3 := hm2.ext hb2
  go_wp2_with fail
  refine (copied_any _ _ _ _ _ _ _ _ _ _ hm3.a hm3.i hm3.r (by omega) (by omega) (by omega)).mono ?_
  rintro e w3 ⟨A1, c1, A2, c2, A3, c3, rfl, hL, hb3⟩
  have s2 : w.heap.size + 2 ≤ w2.heap.size := by
    have := hbl2.size
    simp at this
    exact this
  have s3 : w2.heap.size ≤ w3.heap.size := hb3.size
  have s4 : w.heap.size + 1 < w3.heap.size := by omega
  have s5 : ¬ w.heap.size + 1 = w3.heap.size := by omega
  have hbl3 : Below (w.heap.size + 2) ((w.alloc (.cells #[.slice Aa xs.length ca, .slice Ai ys.length ci, .slice Ar rs.length cr] 25)).alloc (.cells #[.slice none 0 0, .slice none 0 0, .slice none 0 0] 25)) w3 := (by repeat' (first | with_reducible exact Below.refl _ _ | with_reducible assumption | with_reducible apply Below.drew | with_reducible apply below_drewN | with_reducible apply Below.alloc | with_reducible apply Below.setCell | (with_reducible refine Below.trans ?_ (Below.mono (by assumption) ?_)) | (simp; done) | (simp; omega) | omega | with_reducible apply le_size_alloc | with_reducible apply le_size_drewN | with_reducible apply le_size_drew | with_reducible apply le_size_setCell | refine Nat.le_trans ?_ (Below.size (by assumption))))
  clear p0 p1 p2 hm2 hm3 hb1 hb2 hb3 hbl1 hbl2
  have rs1 := RS.start hL
  clear hL
  have k1 := (rs1.blk.cell_ 0).trans (by simp : _ = some (.slice A1 xs.length c1))
  go_wp2_with fail
  refine (Delete_any (.slice A1 xs.length c1) xs w2.heap.size pl.toNat _ _ _ (by omega) (by omega) rs1.own.a (by omega)).mono ?_
  rintro e w5 ⟨A5, c5, he, ho5, hg5, hl5⟩
  rw [← HVS.out] at he ho5 hl5
  subst he
  rw [ownBlock_slice] at hg5 hl5
  rw [ownBlock_slice] at hl5
  have rs4 := rs1.act hg5 ho5 hl5
  have b5 : Below (w.heap.size + 2) (w3.alloc (.cells #[.slice A1 xs.length c1, .slice A2 ys.length c2, .slice A3 rs.length c3] 25)) w5 :=
    (Below.refl _ _).grown hg5 (by simp; omega) (fun k hk => by have := (rs1.own.a.block k hk).1; omega)
  have z5 : w3.heap.size < w5.heap.size := by have := hg5.size; simp at this; omega
  have bk := blk_grown rs1.blk hg5 rs1.f1
  have k2 := (bk.cell_ 0).trans (by simp : _ = some (.slice A1 xs.length c1))
  have k3 := bk.frozen_ 0
  have k4 := (bk.cell_ 1).trans (by simp : _ = some (.slice A2 ys.length c2))
  have k5 := (bk.cell_ 2).trans (by simp : _ = some (.slice A3 rs.length c3))
  obtain ⟨g3, hA3, hcb, hfb, hbg, rs5⟩ := rs4.bit (f := f.toNat) (by omega) false
  have nRg : ¬ w3.heap.size = g3 := by rintro rfl; exact rs4.f3 (by rw [hA3]; rfl)
  have nRg' : ¬ g3 = w3.heap.size := fun e => nRg e.symm
  have nBg : ¬ w.heap.size + 1 = g3 := by omega
  have hcb' : w5.cell? ⟨g3, f.toNat, none⟩ = some (.bool (rs.getD f.toNat false)) := by rw [← hcb, World.cell?_setCell_other _ _ _ _ (by simp [nRg'])]
  have hfb' : w5.frozen? ⟨g3, f.toNat, none⟩ = false := by simpa using hfb
  have b6 : Below (w.heap.size + 2) ((w.alloc (.cells #[.slice Aa xs.length ca, .slice Ai ys.length ci, .slice Ar rs.length cr] 25)).alloc (.cells #[.slice none 0 0, .slice none 0 0, .slice none 0 0] 25)) w5 := (hbl3.alloc (by omega) _).trans b5
  have q0 : w5.cell? ⟨w.heap.size + 1, 0, none⟩ = some (.slice none 0 0) := cell_keep b6 (by simp) (by simp)
  have q1 : w5.cell? ⟨w.heap.size + 1, 1, none⟩ = some (.slice none 0 0) := cell_keep b6 (by simp) (by simp)
  have q2 : w5.cell? ⟨w.heap.size + 1, 2, none⟩ = some (.slice none 0 0) := cell_keep b6 (by simp) (by simp)
  have q3 : w5.frozen? ⟨w.heap.size + 1, 0, none⟩ = false := frozen_keep b6 (by simp) (by simp)
  have q4 : w5.frozen? ⟨w.heap.size + 1, 1, none⟩ = false := frozen_keep b6 (by simp) (by simp)
  have q5 : w5.frozen? ⟨w.heap.size + 1, 2, none⟩ = false := frozen_keep b6 (by simp) (by simp)
  have HB6 : Hid (Below w.heap.size w w5) := by
    show Below _ _ _
    exact ((Below.refl _ _).alloc (Nat.le_refl _) _ |>.alloc (by simp) _).trans (b6.mono (by omega))
  subst hA3
  have RS5 := Lib.hid rs5
  clear rs1 hg5 ho5 hl5 bk k1 rs4 b6 b5 hbl3 rs5 hcb hfb
  go_wp2
  unfold ListsPost
  rw [List.length_set]
  refine bodyPost_ret (v := .tuple #[.agg #[.slice A5 vs.length c5, .slice A2 ys.length c2, .slice (some ⟨g3, 0, none⟩) rs.length c3], .int .i64 0]) (by simp [results, Try.results47, go_sem, q0, q1, q2]) rfl ?_
  refine ⟨A5, c5, A2, c2, _, c3, rfl, ?_, ?_⟩
  · have o := RS5.out.own
    exact (((o.far_ _ _ (by omega)).far_ _ _ (by omega)).far_ _ _ (by omega)).base_ (by omega)
  · have hb6 := HB6.out
    exact (by repeat' (first | with_reducible exact Below.refl _ _ | with_reducible assumption | with_reducible apply Below.drew | with_reducible apply below_drewN | with_reducible apply Below.alloc | with_reducible apply Below.setCell | (with_reducible refine Below.trans ?_ (Below.mono (by assumption) ?_)) | (simp; done) | (simp; omega) | omega | with_reducible apply le_size_alloc | with_reducible apply le_size_drewN | with_reducible apply le_size_drew | with_reducible apply le_size_setCell | refine Nat.le_trans ?_ (Below.size (by assumption))))

set_option maxRecDepth 100000 in
set_option maxHeartbeats 1000000 in
theorem Remove_ok2 (Aa Ai Ar : Option Addr) (ca ci cr : Nat) (xs ys : List Int) (rs : List Bool) (f : Int) (w : World) (hm : InMem w Aa Ai Ar xs ys rs) (hc : lruChd xs ys rs f = 0) (hwh : fWhere xs ys f = 2) (hpl0 : fPlace xs ys f = ixOf ys f) (hin : f ∈ ys) :
    Calls Try.prog 47 #[.agg #[.slice Aa xs.length ca, .slice Ai ys.length ci, .slice Ar rs.length cr], .int .i64 f] w (ListsPost xs (ys.eraseIdx (ixOf ys f).toNat) (rs.set f.toNat false) w) := by
  have hix : 0 ≤ ixOf ys f ∧ ixOf ys f < ys.length := by
    rcases ixOf_bd ys f with ⟨_, b1, b2⟩ | ⟨hn, _⟩
    · exact ⟨b1, b2⟩
    · exact absurd hin hn
  have HM := Lib.hid hm; have HC := Lib.hid hc; have HWH := Lib.hid hwh
  obtain ⟨hck, hf0, hf1⟩ := chd_ok hc
  have hv := valid_of_chk hck
  have hlen := hv.len
  have hhi := hv.hi
  have HPL := Lib.hid hpl0
  clear hm hc hwh hck hv hpl0 hin
  obtain ⟨hi0, hi1⟩ := hix
  generalize ixOf ys f = pl at *
  obtain ⟨vs, hvs⟩ : ∃ vs, vs = ys.eraseIdx pl.toNat := ⟨_, rfl⟩
  have HVS := Lib.hid hvs
  rw [← hvs]
  clear hvs
  go_enter Try.func47, Try.ntmps47
  go_wp2_with fail
  have hm1 := HM.out.ext (w' := ((w.alloc (.cells #[.slice Aa xs.length ca, .slice Ai ys.length ci, .slice Ar rs.length cr] 25)).alloc (.cells #[.slice none 0 0, .slice none 0 0, .slice none 0 0] 25))) (by repeat' (first | with_reducible exact Below.refl _ _ | with_reducible assumption | with_reducible apply Below.drew | with_reducible apply below_drewN | with_reducible apply Below.alloc | with_reducible apply Below.setCell | (with_reducible refine Below.trans ?_ (Below.mono (by assumption) ?_)) | (simp; done) | (simp; omega) | omega | with_reducible apply le_size_alloc | with_reducible apply le_size_drewN | with_reducible apply le_size_drew | with_reducible apply le_size_setCell | refine Nat.le_trans ?_ (Below.size (by assumption))))
  refine (checked_any _ _ _ _ _ _ _ _ _ _ _ hm1).mono ?_
  rw [HC.out]
  rintro e w1 ⟨rfl, hb1⟩
  have hbl1 : Below (w.heap.size + 2) ((w.alloc (.cells #[.slice Aa xs.length ca, .slice Ai ys.length ci, .slice Ar rs.length cr] 25)).alloc (.cells #[.slice none 0 0, .slice none 0 0, .slice none 0 0] 25)) w1 := (by repeat' (first | with_reducible exact Below.refl _ _ | with_reducible assumption | with_reducible apply Below.drew | with_reducible apply below_drewN | with_reducible apply Below.alloc | with_reducible apply Below.setCell | (with_reducible refine Below.trans ?_ (Below.mono (by assumption) ?_)) | (simp; done) | (simp; omega) | omega | with_reducible apply le_size_alloc | with_reducible apply le_size_drewN | with_reducible apply le_size_drew | with_reducible apply le_size_setCell | refine Nat.le_trans ?_ (Below.size (by assumption))))
  have p0 : w1.cell? ⟨w.heap.size, 0, none⟩ = some (.slice Aa xs.length ca) := cell_keep hbl1 (by simp) (by simp)
  have p1 : w1.cell? ⟨w.heap.size, 1, none⟩ = some (.slice Ai ys.length ci) := cell_keep hbl1 (by simp) (by simp)
  have p2 : w1.cell? ⟨w.heap.size, 2, none⟩ = some (.slice Ar rs.length cr) := cell_keep hbl1 (by simp) (by simp)
  have hm2 := hm1.ext hb1
  go_wp2_with fail
  refine (find_any _ _ _ _ _ _ _ _ _ _ _ hm2.a hm2.i (by omega) (by omega)).mono ?_
  rw [HWH.out, HPL.out]
  rintro e w2 ⟨rfl, hb2⟩
  have hbl2 : Below (w.heap.size + 2) ((w.alloc (.cells #[.slice Aa xs.length ca, .slice Ai ys.length ci, .slice Ar rs.length cr] 25)).alloc (.cells #[.slice none 0 0, .slice none 0 0, .slice none 0 0] 25)) w2 := (by repeat' (first | with_reducible exact Below.refl _ _ | with_reducible assumption | with_reducible apply Below.drew | with_reducible apply below_drewN | with_reducible apply Below.alloc | with_reducible apply Below.setCell | (with_reducible refine Below.trans ?_ (Below.mono (by assumption) ?_)) | (simp; done) | (simp; omega) | omega | with_reducible apply le_size_alloc | with_reducible apply le_size_drewN | with_reducible apply le_size_drew | with_reducible apply le_size_setCell | refine Nat.le_trans ?_ (Below.size (by assumption))))
  clear p0 p1 p2 hm1
  have p0 : w2.cell? ⟨w.heap.size, 0, none⟩ = some (.slice Aa xs.length ca) := cell_keep hbl2 (by simp) (by simp)
  have p1 : w2.cell? ⟨w.heap.size, 1, none⟩ = some (.slice Ai ys.length ci) := cell_keep hbl2 (by simp) (by simp)
  have p2 : w2.cell? ⟨w.heap.size, 2, none⟩ = some (.slice Ar rs.length cr) := cell_keep hbl2 (by simp) (by simp)
  have hm3 := hm2.ext hb2
  go_wp2_with fail
  refine (copied_any _ _ _ _ _ _ _ _ _ _ hm3.a hm3.i hm3.r (by omega) (by omega) (by omega)).mono ?_
  rintro e w3 ⟨A1, c1, A2, c2, A3, c3, rfl, hL, hb3⟩
  have s2 : w.heap.size + 2 ≤ w2.heap.size := by
    have := hbl2.size
    simp at this
    exact this
  have s3 : w2.heap.size ≤ w3.heap.size := hb3.size
  have s4 : w.heap.size + 1 < w3.heap.size := by omega
  have s5 : ¬ w.heap.size + 1 = w3.heap.size := by omega
  have hbl3 : Below (w.heap.size + 2) ((w.alloc (.cells #[.slice Aa xs.length ca, .slice Ai ys.length ci, .slice Ar rs.length cr] 25)).alloc (.cells #[.slice none 0 0, .slice none 0 0, .slice none 0 0] 25)) w3 := (by repeat' (first | with_reducible exact Below.refl _ _ | with_reducible assumption | with_reducible apply Below.drew | with_reducible apply below_drewN | with_reducible apply Below.alloc | with_reducible apply Below.setCell | (with_reducible refine Below.trans ?_ (Below.mono (by assumption) ?_)) | (simp; done) | (simp; omega) | omega | with_reducible apply le_size_alloc | with_reducible apply le_size_drewN | with_reducible apply le_size_drew | with_reducible apply le_size_setCell | refine Nat.le_trans ?_ (Below.size (by assumption))))
  clear p0 p1 p2 hm2 hm3 hb1 hb2 hb3 hbl1 hbl2
  have rs1 := RS.start hL
  clear hL
  have k1 := (rs1.blk.cell_ 1).trans (by simp : _ = some (.slice A2 ys.length c2))
  go_wp2_with fail
  refine (Delete_any (.slice A2 ys.length c2) ys w2.heap.size pl.toNat _ _ _ (by omega) (by omega) rs1.own.i (by omega)).mono ?_
  rintro e w5 ⟨A5, c5, he, ho5, hg5, hl5⟩
  rw [← HVS.out] at he ho5 hl5
  subst he
  rw [ownBlock_slice] at hg5 hl5
  rw [ownBlock_slice] at hl5
  have rs4 := rs1.inact hg5 ho5 hl5
  have b5 : Below (w.heap.size + 2) (w3.alloc (.cells #[.slice A1 xs.length c1, .slice A2 ys.length c2, .slice A3 rs.length c3] 25)) w5 :=
    (Below.refl _ _).grown hg5 (by simp; omega) (fun k hk => by have := (rs1.own.i.block k hk).1; omega)
  have z5 : w3.heap.size < w5.heap.size := by have := hg5.size; simp at this; omega
  have bk := blk_grown rs1.blk hg5 rs1.f2
  have k2 := (bk.cell_ 1).trans (by simp : _ = some (.slice A2 ys.length c2))
  have k3 := bk.frozen_ 1
  have k4 := (bk.cell_ 0).trans (by simp : _ = some (.slice A1 xs.length c1))
  have k5 := (bk.cell_ 2).trans (by simp : _ = some (.slice A3 rs.length c3))
  obtain ⟨g3, hA3, hcb, hfb, hbg, rs5⟩ := rs4.bit (f := f.toNat) (by omega) false
  have nRg : ¬ w3.heap.size = g3 := by rintro rfl; exact rs4.f3 (by rw [hA3]; rfl)
  have nRg' : ¬ g3 = w3.heap.size := fun e => nRg e.symm
  have nBg : ¬ w.heap.size + 1 = g3 := by omega
  have hcb' : w5.cell? ⟨g3, f.toNat, none⟩ = some (.bool (rs.getD f.toNat false)) := by rw [← hcb, World.cell?_setCell_other _ _ _ _ (by simp [nRg'])]
  have hfb' : w5.frozen? ⟨g3, f.toNat, none⟩ = false := by simpa using hfb
  have b6 : Below (w.heap.size + 2) ((w.alloc (.cells #[.slice Aa xs.length ca, .slice Ai ys.length ci, .slice Ar rs.length cr] 25)).alloc (.cells #[.slice none 0 0, .slice none 0 0, .slice none 0 0] 25)) w5 := (hbl3.alloc (by omega) _).trans b5
  have q0 : w5.cell? ⟨w.heap.size + 1, 0, none⟩ = some (.slice none 0 0) := cell_keep b6 (by simp) (by simp)
  have q1 : w5.cell? ⟨w.heap.size + 1, 1, none⟩ = some (.slice none 0 0) := cell_keep b6 (by simp) (by simp)
  have q2 : w5.cell? ⟨w.heap.size + 1, 2, none⟩ = some (.slice none 0 0) := cell_keep b6 (by simp) (by simp)
  have q3 : w5.frozen? ⟨w.heap.size + 1, 0, none⟩ = false := frozen_keep b6 (by simp) (by simp)
  have q4 : w5.frozen? ⟨w.heap.size + 1, 1, none⟩ = false := frozen_keep b6 (by simp) (by simp)
  have q5 : w5.frozen? ⟨w.heap.size + 1, 2, none⟩ = false := frozen_keep b6 (by simp) (by simp)
  have HB6 : Hid (Below w.heap.size w w5) := by
    show Below _ _ _
    exact ((Below.refl _ _).alloc (Nat.le_refl _) _ |>.alloc (by simp) _).trans (b6.mono (by omega))
  subst hA3
  have RS5 := Lib.hid rs5
  clear rs1 hg5 ho5 hl5 bk k1 rs4 b6 b5 hbl3 rs5 hcb hfb
  go_wp2
  unfold ListsPost
  rw [List.length_set]
  refine bodyPost_ret (v := .tuple #[.agg #[.slice A1 xs.length c1, .slice A5 vs.length c5, .slice (some ⟨g3, 0, none⟩) rs.length c3], .int .i64 0]) (by simp [results, Try.results47, go_sem, q0, q1, q2]) rfl ?_
  refine ⟨A1, c1, A5, c5, _, c3, rfl, ?_, ?_⟩
  · have o := RS5.out.own
    exact (((o.far_ _ _ (by omega)).far_ _ _ (by omega)).far_ _ _ (by omega)).base_ (by omega)
  · have hb6 := HB6.out
    exact (by repeat' (first | with_reducible exact Below.refl _ _ | with_reducible assumption | with_reducible apply Below.drew | with_reducible apply below_drewN | with_reducible apply Below.alloc | with_reducible apply Below.setCell | (with_reducible refine Below.trans ?_ (Below.mono (by assumption) ?_)) | (simp; done) | (simp; omega) | omega | with_reducible apply le_size_alloc | with_reducible apply le_size_drewN | with_reducible apply le_size_drew | with_reducible apply le_size_setCell | refine Nat.le_trans ?_ (Below.size (by assumption))))
end Go.Proofs.Ytiobbdfkimpfbaa
