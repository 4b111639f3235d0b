/- Contracts of the package lru: where a frame is. -/
import Derived.Test.YtiobbdfkimpfbaaLru3
namespace Go.Proofs.Ytiobbdfkimpfbaa
set_option linter.unusedSimpArgs false
set_option linter.unusedVariables false
open Go.RowKit Go.Maps

/-- The place of a number in a list, or -1. -/
def ixOf (xs : List Int) (x : Int) : Int := if x ∈ xs then (xs.idxOf x : Int) else -1
theorem ixOf_at {xs : List Int} {x : Int} {k : Nat} (h : xs[k]? = some x) (hn : ∀ m, m < k → xs[m]? ≠ some x) : ixOf xs x = k := by
  obtain ⟨hk, e⟩ := List.getElem?_eq_some_iff.1 h
  have hm : x ∈ xs := List.mem_of_getElem? h
  have h1 : xs.idxOf x < xs.length := List.idxOf_lt_length_of_mem hm
  have h2 : xs[xs.idxOf x]? = some x := by rw [List.getElem?_eq_getElem h1]; simp
  have h3 : ¬ xs.idxOf x < k := fun h => hn _ h h2
  have h4 : ¬ k < xs.idxOf x := fun h => by
    have := List.not_of_lt_findIdx (p := fun y => y == x) (xs := xs) (i := k) (by simpa [List.idxOf] using h)
    simp [e] at this
  unfold ixOf; rw [if_pos hm]; omega
theorem ixOf_no {xs : List Int} {x : Int} (hn : ∀ m : Nat, m < xs.length → xs[m]? ≠ some x) : ixOf xs x = -1 := by
  unfold ixOf
  refine if_neg fun hm => ?_
  have h1 : xs.idxOf x < xs.length := List.idxOf_lt_length_of_mem hm
  exact hn _ h1 (by rw [List.getElem?_eq_getElem h1]; simp)
theorem ixOf_bd (xs : List Int) (x : Int) : (x ∈ xs ∧ 0 ≤ ixOf xs x ∧ ixOf xs x < xs.length) ∨ (x ∉ xs ∧ ixOf xs x = -1) := by
  unfold ixOf
  by_cases h : x ∈ xs
  · left; rw [if_pos h]; have := List.idxOf_lt_length_of_mem h; exact ⟨h, by omega, by omega⟩
  · right; rw [if_neg h]; exact ⟨h, rfl⟩

set_option maxHeartbeats 400000 in
theorem Index_any (A : Option Addr) (c : Nat) (xs : List Int) (x : Int) (w : World) (h : Sl w (.int .i64) A xs) (hn : xs.length ≤ 100000) :
    Calls Try.prog 81 #[.slice A xs.length c, .int .i64 x] w fun e w' => e = .returned (.int .i64 (ixOf xs x)) ∧ w = w' := by
  have H := Lib.hid h
  clear h
  go_enter Try.func81, Try.ntmps81
  go_wp2
  go_loop [8] (fun i => ∃ k : Nat, k ≤ xs.length ∧ i = .int .i64 k ∧ Hid (∀ m : Nat, m < k → xs[m]? ≠ some x)) (fun i => xs.length - (intOf i).toNat)
  case atStart => exact ⟨0, by omega, rfl, fun m hm => absurd hm (by omega)⟩
  case round =>
    obtain ⟨k, hk, rfl, HK⟩ := hrel
    by_cases hlt : k < xs.length
    · obtain ⟨b, off, y, rfl, hbl, hx, hc⟩ := H.out.at_ hlt
      have HX := Lib.hid hx
      clear hx
      by_cases e : x = y
      · subst e
        go_wp2
        go_ret
        exact ⟨ret_int (ixOf_at HX.out HK.out).symm, rfl⟩
      · have he : (x == y) = false := by simpa using e
        have HE := Lib.hid e
        clear e
        go_wp2
        go_round
        case rel =>
          refine ⟨k + 1, by omega, by go_num, fun m hm hm' => ?_⟩
          rcases (by omega : m < k ∨ m = k) with h | rfl
          · exact HK.out m h hm'
          · have := HX.out.symm.trans hm'; injection this with this; exact HE.out this.symm
        case measure => simp [intOf]; omega
    · go_wp2
      go_ret
      exact ⟨ret_int (ixOf_no (fun m hm => HK.out m (by omega))).symm, rfl⟩

/-- In which list a frame is (1, 2, or 0), and its place there. -/
def fWhere (xs ys : List Int) (f : Int) : Int := if f ∈ xs then 1 else if f ∈ ys then 2 else 0
def fPlace (xs ys : List Int) (f : Int) : Int := if f ∈ xs then ixOf xs f else if f ∈ ys then ixOf ys f else 0

set_option maxHeartbeats 400000 in
theorem find_any (Aa Ai Ar : Option Addr) (ca ci cr : Nat) (xs ys : List Int) (rs : List Bool) (f : Int) (w : World) (ha : Sl w (.int .i64) Aa xs) (hi : Sl w (.int .i64) Ai ys) (la : xs.length ≤ 100000) (li : ys.length ≤ 100000) :
    Calls Try.prog 64 #[.agg #[.slice Aa xs.length ca, .slice Ai ys.length ci, .slice Ar rs.length cr], .int .i64 f] w fun e w' => e = .returned (.tuple #[.int .i64 (fWhere xs ys f), .int .i64 (fPlace xs ys f)]) ∧ Below w.heap.size w w' := by
  have h1 := ha.ext (w' := w.alloc (.cells #[.slice Aa xs.length ca, .slice Ai ys.length ci, .slice Ar rs.length cr] 25)) (by repeat' (first | with_reducible exact Below.refl _ _ | with_reducible assumption | with_reducible apply Below.drew | with_reducible apply below_drewN | with_reducible apply Below.alloc | with_reducible apply Below.setCell | (with_reducible refine Below.trans ?_ (Below.mono (by assumption) ?_)) | (simp; done) | (simp; omega) | omega | with_reducible apply le_size_alloc | with_reducible apply le_size_drewN | with_reducible apply le_size_drew | with_reducible apply le_size_setCell | refine Nat.le_trans ?_ (Below.size (by assumption))))
  have h2 := hi.ext (w' := w.alloc (.cells #[.slice Aa xs.length ca, .slice Ai ys.length ci, .slice Ar rs.length cr] 25)) (by repeat' (first | with_reducible exact Below.refl _ _ | with_reducible assumption | with_reducible apply Below.drew | with_reducible apply below_drewN | with_reducible apply Below.alloc | with_reducible apply Below.setCell | (with_reducible refine Below.trans ?_ (Below.mono (by assumption) ?_)) | (simp; done) | (simp; omega) | omega | with_reducible apply le_size_alloc | with_reducible apply le_size_drewN | with_reducible apply le_size_drew | with_reducible apply le_size_setCell | refine Nat.le_trans ?_ (Below.size (by assumption))))
  have H1 := Lib.hid h1; have H2 := Lib.hid h2
  clear h1 h2 ha hi
  rcases ixOf_bd xs f with ⟨hm, b1, b2⟩ | ⟨hm, b1⟩
  · have e1 : Hid (fWhere xs ys f = 1) := if_pos hm
    have e2 : Hid (fPlace xs ys f = ixOf xs f) := if_pos hm
    clear hm
    go_enter Try.func64, Try.ntmps64
    go_wp2_with (go_at_call 81; refine (Index_any _ _ _ _ _ H1.out (by omega)).mono ?_; rintro e w' ⟨rfl, rfl⟩)
    go_ret2
    exact ⟨by rw [e1.out, e2.out]; rfl, (by repeat' (first | with_reducible exact Below.refl _ _ | with_reducible assumption | with_reducible apply Below.drew | with_reducible apply below_drewN | with_reducible apply Below.alloc | with_reducible apply Below.setCell | (with_reducible refine Below.trans ?_ (Below.mono (by assumption) ?_)) | (simp; done) | (simp; omega) | omega | with_reducible apply le_size_alloc | with_reducible apply le_size_drewN | with_reducible apply le_size_drew | with_reducible apply le_size_setCell | refine Nat.le_trans ?_ (Below.size (by assumption))))⟩
  · rcases ixOf_bd ys f with ⟨hm2, b3, b4⟩ | ⟨hm2, b3⟩
    · have e1 : Hid (fWhere xs ys f = 2) := by show _ = _; rw [fWhere, if_neg hm, if_pos hm2]
      have e2 : Hid (fPlace xs ys f = ixOf ys f) := by show _ = _; rw [fPlace, if_neg hm, if_pos hm2]
      have b1' : ixOf xs f < 0 := by omega
      clear hm hm2 b1
      go_enter Try.func64, Try.ntmps64
      go_wp2_with fail
      refine (Index_any _ _ _ _ _ H1.out (by omega)).mono ?_
      rintro e w' ⟨rfl, rfl⟩
      go_wp2_with fail
      refine (Index_any _ _ _ _ _ H2.out (by omega)).mono ?_
      rintro e w' ⟨rfl, rfl⟩
      go_wp2
      go_ret2
      exact ⟨by rw [e1.out, e2.out]; rfl, (by repeat' (first | with_reducible exact Below.refl _ _ | with_reducible assumption | with_reducible apply Below.drew | with_reducible apply below_drewN | with_reducible apply Below.alloc | with_reducible apply Below.setCell | (with_reducible refine Below.trans ?_ (Below.mono (by assumption) ?_)) | (simp; done) | (simp; omega) | omega | with_reducible apply le_size_alloc | with_reducible apply le_size_drewN | with_reducible apply le_size_drew | with_reducible apply le_size_setCell | refine Nat.le_trans ?_ (Below.size (by assumption))))⟩
    · have e1 : Hid (fWhere xs ys f = 0) := by show _ = _; rw [fWhere, if_neg hm, if_neg hm2]
      have e2 : Hid (fPlace xs ys f = 0) := by show _ = _; rw [fPlace, if_neg hm, if_neg hm2]
      have b1' : ixOf xs f < 0 := by omega
      have b3' : ixOf ys f < 0 := by omega
      clear hm hm2 b1 b3
      go_enter Try.func64, Try.ntmps64
      go_wp2_with fail
      refine (Index_any _ _ _ _ _ H1.out (by omega)).mono ?_
      rintro e w' ⟨rfl, rfl⟩
      go_wp2_with fail
      refine (Index_any _ _ _ _ _ H2.out (by omega)).mono ?_
      rintro e w' ⟨rfl, rfl⟩
      go_wp2
      go_ret2
      exact ⟨by rw [e1.out, e2.out]; rfl, (by repeat' (first | with_reducible exact Below.refl _ _ | with_reducible assumption | with_reducible apply Below.drew | with_reducible apply below_drewN | with_reducible apply Below.alloc | with_reducible apply Below.setCell | (with_reducible refine Below.trans ?_ (Below.mono (by assumption) ?_)) | (simp; done) | (simp; omega) | omega | with_reducible apply le_size_alloc | with_reducible apply le_size_drewN | with_reducible apply le_size_drew | with_reducible apply le_size_setCell | refine Nat.le_trans ?_ (Below.size (by assumption))))⟩

/-- The error of lists, then that of a frame. -/
def lruChd (xs ys : List Int) (rs : List Bool) (f : Int) : Int := if lruChk xs ys rs ≠ 0 then lruChk xs ys rs else if 0 ≤ f ∧ f < rs.length then 0 else 2

set_option maxHeartbeats 400000 in
theorem checked_any (Aa Ai Ar : Option Addr) (ca ci cr : Nat) (xs ys : List Int) (rs : List Bool) (f : Int) (w : World) (hm : InMem w Aa Ai Ar xs ys rs) :
    Calls Try.prog 63 #[.agg #[.slice Aa xs.length ca, .slice Ai ys.length ci, .slice Ar rs.length cr], .int .i64 f] w fun e w' => e = .returned (.int .i64 (lruChd xs ys rs f)) ∧ Below w.heap.size w w' := by
  have HM := Lib.hid hm
  have hlr := hm.lr
  clear hm
  generalize hc : lruChk xs ys rs = c
  have HC := Lib.hid hc
  by_cases h0 : c ≠ 0
  · have hr : Hid (lruChd xs ys rs f = c) := by show _ = _; rw [lruChd, hc, if_pos h0]
    have hne : (c != 0) = true := by simpa using h0
    clear hc h0
    go_enter Try.func63, Try.ntmps63
    go_wp2_with fail
    have hm1 := HM.out.ext (w' := w.alloc (.cells #[.slice Aa xs.length ca, .slice Ai ys.length ci, .slice Ar rs.length cr] 25)) (by repeat' (first | with_reducible exact Below.refl _ _ | with_reducible assumption | with_reducible apply Below.drew | with_reducible apply below_drewN | with_reducible apply Below.alloc | with_reducible apply Below.setCell | (with_reducible refine Below.trans ?_ (Below.mono (by assumption) ?_)) | (simp; done) | (simp; omega) | omega | with_reducible apply le_size_alloc | with_reducible apply le_size_drewN | with_reducible apply le_size_drew | with_reducible apply le_size_setCell | refine Nat.le_trans ?_ (Below.size (by assumption))))
    refine (hm1.check _ _ _).mono ?_
    rw [HC.out]
    rintro e w1 ⟨rfl, hb1⟩
    go_wp2
    go_ret
    exact ⟨ret_int hr.out.symm, (by repeat' (first | with_reducible exact Below.refl _ _ | with_reducible assumption | with_reducible apply Below.drew | with_reducible apply below_drewN | with_reducible apply Below.alloc | with_reducible apply Below.setCell | (with_reducible refine Below.trans ?_ (Below.mono (by assumption) ?_)) | (simp; done) | (simp; omega) | omega | with_reducible apply le_size_alloc | with_reducible apply le_size_drewN | with_reducible apply le_size_drew | with_reducible apply le_size_setCell | refine Nat.le_trans ?_ (Below.size (by assumption))))⟩
  obtain rfl : c = 0 := by omega
  have hr : Hid (lruChd xs ys rs f = if 0 ≤ f ∧ f < rs.length then 0 else 2) := by show _ = _; rw [lruChd, hc, if_neg h0]
  clear hc h0
  by_cases hin : 0 ≤ f ∧ f < rs.length
  · have hd : decide (0 ≤ f ∧ f < (rs.length : Int)) = true := by simpa using hin
    rw [if_pos hin] at hr
    clear hin
    go_enter Try.func63, Try.ntmps63
    go_wp2_with fail
    have hm1 := HM.out.ext (w' := w.alloc (.cells #[.slice Aa xs.length ca, .slice Ai ys.length ci, .slice Ar rs.length cr] 25)) (by repeat' (first | with_reducible exact Below.refl _ _ | with_reducible assumption | with_reducible apply Below.drew | with_reducible apply below_drewN | with_reducible apply Below.alloc | with_reducible apply Below.setCell | (with_reducible refine Below.trans ?_ (Below.mono (by assumption) ?_)) | (simp; done) | (simp; omega) | omega | with_reducible apply le_size_alloc | with_reducible apply le_size_drewN | with_reducible apply le_size_drew | with_reducible apply le_size_setCell | refine Nat.le_trans ?_ (Below.size (by assumption))))
    refine (hm1.check _ _ _).mono ?_
    rw [HC.out]
    rintro e w1 ⟨rfl, hb1⟩
    have p0 : w1.cell? ⟨w.heap.size, 0, none⟩ = some (.slice Aa xs.length ca) := cell_keep hb1 (by simp) (by simp)
    have p1 : w1.cell? ⟨w.heap.size, 1, none⟩ = some (.slice Ai ys.length ci) := cell_keep hb1 (by simp) (by simp)
    have p2 : w1.cell? ⟨w.heap.size, 2, none⟩ = some (.slice Ar rs.length cr) := cell_keep hb1 (by simp) (by simp)
    clear hm1
    go_wp2_with (go_at_call 60; refine (within_any _ _ _ _ _ _ _ (by omega)).mono ?_; rintro e w2 ⟨rfl, hb2⟩)
    go_ret
    exact ⟨ret_int hr.out.symm, (by repeat' (first | with_reducible exact Below.refl _ _ | with_reducible assumption | with_reducible apply Below.drew | with_reducible apply below_drewN | with_reducible apply Below.alloc | with_reducible apply Below.setCell | (with_reducible refine Below.trans ?_ (Below.mono (by assumption) ?_)) | (simp; done) | (simp; omega) | omega | with_reducible apply le_size_alloc | with_reducible apply le_size_drewN | with_reducible apply le_size_drew | with_reducible apply le_size_setCell | refine Nat.le_trans ?_ (Below.size (by assumption))))⟩
  · have hd : decide (0 ≤ f ∧ f < (rs.length : Int)) = false := by simpa using hin
    rw [if_neg hin] at hr
    clear hin
    go_enter Try.func63, Try.ntmps63
    go_wp2_with fail
    have hm1 := HM.out.ext (w' := w.alloc (.cells #[.slice Aa xs.length ca, .slice Ai ys.length ci, .slice Ar rs.length cr] 25)) (by repeat' (first | with_reducible exact Below.refl _ _ | with_reducible assumption | with_reducible apply Below.drew | with_reducible apply below_drewN | with_reducible apply Below.alloc | with_reducible apply Below.setCell | (with_reducible refine Below.trans ?_ (Below.mono (by assumption) ?_)) | (simp; done) | (simp; omega) | omega | with_reducible apply le_size_alloc | with_reducible apply le_size_drewN | with_reducible apply le_size_drew | with_reducible apply le_size_setCell | refine Nat.le_trans ?_ (Below.size (by assumption))))
    refine (hm1.check _ _ _).mono ?_
    rw [HC.out]
    rintro e w1 ⟨rfl, hb1⟩
    have p0 : w1.cell? ⟨w.heap.size, 0, none⟩ = some (.slice Aa xs.length ca) := cell_keep hb1 (by simp) (by simp)
    have p1 : w1.cell? ⟨w.heap.size, 1, none⟩ = some (.slice Ai ys.length ci) := cell_keep hb1 (by simp) (by simp)
    have p2 : w1.cell? ⟨w.heap.size, 2, none⟩ = some (.slice Ar rs.length cr) := cell_keep hb1 (by simp) (by simp)
    clear hm1
    go_wp2_with (go_at_call 60; refine (within_any _ _ _ _ _ _ _ (by omega)).mono ?_; rintro e w2 ⟨rfl, hb2⟩)
    go_ret
    exact ⟨ret_int hr.out.symm, (by repeat' (first | with_reducible exact Below.refl _ _ | with_reducible assumption | with_reducible apply Below.drew | with_reducible apply below_drewN | with_reducible apply Below.alloc | with_reducible apply Below.setCell | (with_reducible refine Below.trans ?_ (Below.mono (by assumption) ?_)) | (simp; done) | (simp; omega) | omega | with_reducible apply le_size_alloc | with_reducible apply le_size_drewN | with_reducible apply le_size_drew | with_reducible apply le_size_setCell | refine Nat.le_trans ?_ (Below.size (by assumption))))⟩

theorem chd_ok {xs ys : List Int} {rs : List Bool} {f : Int} (h : lruChd xs ys rs f = 0) : lruChk xs ys rs = 0 ∧ 0 ≤ f ∧ f < rs.length := by
  unfold lruChd at h
  by_cases h1 : lruChk xs ys rs ≠ 0
  · rw [if_pos h1] at h; exact absurd h h1
  · rw [if_neg h1] at h
    by_cases h2 : 0 ≤ f ∧ f < rs.length
    · exact ⟨by simpa using h1, h2⟩
    · rw [if_neg h2] at h; cases h

/-- What Where gives back. -/
def whereR (xs ys : List Int) (rs : List Bool) (f : Int) : Value :=
  if lruChd xs ys rs f ≠ 0 then .tuple #[.int .i64 0, .int .i64 (lruChd xs ys rs f)] else .tuple #[.int .i64 (fWhere xs ys f), .int .i64 0]

set_option maxHeartbeats 400000 in
theorem Where_any (Aa Ai Ar : Option Addr) (ca ci cr : Nat) (xs ys : List Int) (rs : List Bool) (f : Int) (w : World) (hm : InMem w Aa Ai Ar xs ys rs) :
    Calls Try.prog 36 #[.agg #[.slice Aa xs.length ca, .slice Ai ys.length ci, .slice Ar rs.length cr], .int .i64 f] w fun e w' => e = .returned (whereR xs ys rs f) ∧ Below w.heap.size w w' := by
  have HM := Lib.hid hm
  clear hm
  unfold whereR
  generalize hc : lruChd xs ys rs f = c
  have HC := Lib.hid hc
  by_cases h0 : c ≠ 0
  · rw [if_pos h0]
    have hne : (c != 0) = true := by simpa using h0
    clear hc h0
    go_enter Try.func36, Try.ntmps36
    go_wp2_with fail
    have hm1 := HM.out.ext (w' := w.alloc (.cells #[.slice Aa xs.length ca, .slice Ai ys.length ci, .slice Ar rs.length cr] 25)) (by repeat' (first | with_reducible exact Below.refl _ _ | with_reducible assumption | with_reducible apply Below.drew | with_reducible apply below_drewN | with_reducible apply Below.alloc | with_reducible apply Below.setCell | (with_reducible refine Below.trans ?_ (Below.mono (by assumption) ?_)) | (simp; done) | (simp; omega) | omega | with_reducible apply le_size_alloc | with_reducible apply le_size_drewN | with_reducible apply le_size_drew | with_reducible apply le_size_setCell | refine Nat.le_trans ?_ (Below.size (by assumption))))
    refine (checked_any _ _ _ _ _ _ _ _ _ _ _ hm1).mono ?_
    rw [HC.out]
    rintro e w1 ⟨rfl, hb1⟩
    go_wp2
    go_ret2
    exact ⟨rfl, (by repeat' (first | with_reducible exact Below.refl _ _ | with_reducible assumption | with_reducible apply Below.drew | with_reducible apply below_drewN | with_reducible apply Below.alloc | with_reducible apply Below.setCell | (with_reducible refine Below.trans ?_ (Below.mono (by assumption) ?_)) | (simp; done) | (simp; omega) | omega | with_reducible apply le_size_alloc | with_reducible apply le_size_drewN | with_reducible apply le_size_drew | with_reducible apply le_size_setCell | refine Nat.le_trans ?_ (Below.size (by assumption))))⟩
  · obtain rfl : c = 0 := by omega
    rw [if_neg h0]
    have hv := valid_of_chk (chd_ok hc).1
    have hlen := hv.len
    have hhi := hv.hi
    clear hc h0 hv
    go_enter Try.func36, Try.ntmps36
    go_wp2_with fail
    have hm1 := HM.out.ext (w' := w.alloc (.cells #[.slice Aa xs.length ca, .slice Ai ys.length ci, .slice Ar rs.length cr] 25)) (by repeat' (first | with_reducible exact Below.refl _ _ | with_reducible assumption | with_reducible apply Below.drew | with_reducible apply below_drewN | with_reducible apply Below.alloc | with_reducible apply Below.setCell | (with_reducible refine Below.trans ?_ (Below.mono (by assumption) ?_)) | (simp; done) | (simp; omega) | omega | with_reducible apply le_size_alloc | with_reducible apply le_size_drewN | with_reducible apply le_size_drew | with_reducible apply le_size_setCell | refine Nat.le_trans ?_ (Below.size (by assumption))))
    refine (checked_any _ _ _ _ _ _ _ _ _ _ _ hm1).mono ?_
    rw [HC.out]
    rintro e w1 ⟨rfl, hb1⟩
    have p0 : w1.cell? ⟨w.heap.size, 0, none⟩ = some (.slice Aa xs.length ca) := cell_keep hb1 (by simp) (by simp)
    have p1 : w1.cell? ⟨w.heap.size, 1, none⟩ = some (.slice Ai ys.length ci) := cell_keep hb1 (by simp) (by simp)
    have p2 : w1.cell? ⟨w.heap.size, 2, none⟩ = some (.slice Ar rs.length cr) := cell_keep hb1 (by simp) (by simp)
    have hm2 := hm1.ext hb1
    clear hm1
    go_wp2_with (go_at_call 64; refine (find_any _ _ _ _ _ _ _ _ _ _ _ hm2.a hm2.i (by omega) (by omega)).mono ?_; rintro e w2 ⟨rfl, hb2⟩)
    go_ret2
    exact ⟨rfl, (by repeat' (first | with_reducible exact Below.refl _ _ | with_reducible assumption | with_reducible apply Below.drew | with_reducible apply below_drewN | with_reducible apply Below.alloc | with_reducible apply Below.setCell | (with_reducible refine Below.trans ?_ (Below.mono (by assumption) ?_)) | (simp; done) | (simp; omega) | omega | with_reducible apply le_size_alloc | with_reducible apply le_size_drewN | with_reducible apply le_size_drew | with_reducible apply le_size_setCell | refine Nat.le_trans ?_ (Below.size (by assumption))))⟩
end Go.Proofs.Ytiobbdfkimpfbaa
