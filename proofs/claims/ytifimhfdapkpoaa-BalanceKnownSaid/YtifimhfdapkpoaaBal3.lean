/- Which, Lacks and the chapter's examples: contracts. -/
import Derived.Test.YtifimhfdapkpoaaBal2
namespace Go.Proofs.Ytifimhfdapkpoaa
open Go.RowKit Go.Maps

set_option maxHeartbeats 400000 in
theorem Which_any (Aa Ai Ar : Option Addr) (ca ci cr : Nat) (xs ys : List Int) (rs : List Bool) (w : World) (hm : InMem w Aa Ai Ar xs ys rs) :
    Calls Try.prog 19 #[.agg #[.slice Aa xs.length ca, .slice Ai ys.length ci, .slice Ar rs.length cr]] w fun e w' =>
      e = .returned (if lruChk xs ys rs = 0 then .tuple #[.int .i64 (whichS xs ys rs), .int .i64 0] else .tuple #[.int .i64 0, .int .i64 (lruChk xs ys rs)]) ∧ Below w.heap.size w w' := by
  have HM := Lib.hid hm
  clear hm
  generalize hc : lruChk xs ys rs = c
  have HC := Lib.hid hc
  clear hc
  by_cases h0 : c = 0
  · subst h0
    rw [if_pos rfl]
    go_enter Try.func19, Try.ntmps19
    go_wp2_with fail
    have hm1 := HM.out.ext (w' := w.alloc (.cells #[.slice Aa xs.length ca, .slice Ai ys.length ci, .slice Ar rs.length cr] 33)) (by repeat' (first | with_reducible exact Below.refl _ _ | with_reducible assumption | with_reducible apply Below.drew | with_reducible apply below_drewN | with_reducible apply Below.alloc | with_reducible apply Below.setCell | (with_reducible refine Below.trans ?_ (Below.mono (by assumption) ?_)) | (simp; done) | (simp; omega) | omega | with_reducible apply le_size_alloc | with_reducible apply le_size_drewN | with_reducible apply le_size_drew | with_reducible apply le_size_setCell | refine Nat.le_trans ?_ (Below.size (by assumption))))
    refine (hm1.check _ _ _).mono ?_
    rw [HC.out]
    rintro e w1 ⟨rfl, hb1⟩
    have hB0 := hb1.cell (p := ⟨w.heap.size, 0, none⟩) (by simp)
    have hB1 := hb1.cell (p := ⟨w.heap.size, 1, none⟩) (by simp)
    have hB2 := hb1.cell (p := ⟨w.heap.size, 2, none⟩) (by simp)
    go_wp2_with fail
    have hm2 := hm1.ext hb1
    refine (which_any _ _ _ _ _ _ _ _ _ _ hm2.i hm2.r (valid_of_chk HC.out)).mono ?_
    rintro e w2 ⟨rfl, hb2⟩
    go_wp2
    go_ret2
    exact ⟨rfl, (by repeat' (first | with_reducible exact Below.refl _ _ | with_reducible assumption | with_reducible apply Below.drew | with_reducible apply below_drewN | with_reducible apply Below.alloc | with_reducible apply Below.setCell | (with_reducible refine Below.trans ?_ (Below.mono (by assumption) ?_)) | (simp; done) | (simp; omega) | omega | with_reducible apply le_size_alloc | with_reducible apply le_size_drewN | with_reducible apply le_size_drew | with_reducible apply le_size_setCell | refine Nat.le_trans ?_ (Below.size (by assumption))))⟩
  · rw [if_neg h0]
    have hne : (c != 0) = true := by simpa using h0
    clear h0
    go_enter Try.func19, Try.ntmps19
    go_wp2_with fail
    have hm1 := HM.out.ext (w' := w.alloc (.cells #[.slice Aa xs.length ca, .slice Ai ys.length ci, .slice Ar rs.length cr] 33)) (by repeat' (first | with_reducible exact Below.refl _ _ | with_reducible assumption | with_reducible apply Below.drew | with_reducible apply below_drewN | with_reducible apply Below.alloc | with_reducible apply Below.setCell | (with_reducible refine Below.trans ?_ (Below.mono (by assumption) ?_)) | (simp; done) | (simp; omega) | omega | with_reducible apply le_size_alloc | with_reducible apply le_size_drewN | with_reducible apply le_size_drew | with_reducible apply le_size_setCell | refine Nat.le_trans ?_ (Below.size (by assumption))))
    refine (hm1.check _ _ _).mono ?_
    rw [HC.out]
    rintro e w1 ⟨rfl, hb1⟩
    go_wp2
    go_ret2
    exact ⟨rfl, (by repeat' (first | with_reducible exact Below.refl _ _ | with_reducible assumption | with_reducible apply Below.drew | with_reducible apply below_drewN | with_reducible apply Below.alloc | with_reducible apply Below.setCell | (with_reducible refine Below.trans ?_ (Below.mono (by assumption) ?_)) | (simp; done) | (simp; omega) | omega | with_reducible apply le_size_alloc | with_reducible apply le_size_drewN | with_reducible apply le_size_drew | with_reducible apply le_size_setCell | refine Nat.le_trans ?_ (Below.size (by assumption))))⟩

set_option maxHeartbeats 400000 in
/-- The statements' own 'which', where the lists are valid and the answer is the wanted one. -/
theorem lwhich_yes (Aa Ai Ar : Option Addr) (ca ci cr : Nat) (xs ys : List Int) (rs : List Bool) (want : Int) (w : World) (hm : InMem w Aa Ai Ar xs ys rs)
    (hc : lruChk xs ys rs = 0) (hw : whichS xs ys rs = want) :
    Calls Try.prog 22 #[.agg #[.slice Aa xs.length ca, .slice Ai ys.length ci, .slice Ar rs.length cr], .int .i64 want] w fun e w' =>
      e = .returned (.bool true) ∧ Below w.heap.size w w' := by
  have HM := Lib.hid hm
  have HC := Lib.hid hc
  have HW := Lib.hid hw
  clear hm hc hw
  go_enter Try.func22, Try.ntmps22
  go_wp2_with fail
  have hm1 := HM.out.ext (w' := w.alloc (.cells #[.slice Aa xs.length ca, .slice Ai ys.length ci, .slice Ar rs.length cr] 33)) (by repeat' (first | with_reducible exact Below.refl _ _ | with_reducible assumption | with_reducible apply Below.drew | with_reducible apply below_drewN | with_reducible apply Below.alloc | with_reducible apply Below.setCell | (with_reducible refine Below.trans ?_ (Below.mono (by assumption) ?_)) | (simp; done) | (simp; omega) | omega | with_reducible apply le_size_alloc | with_reducible apply le_size_drewN | with_reducible apply le_size_drew | with_reducible apply le_size_setCell | refine Nat.le_trans ?_ (Below.size (by assumption))))
  refine (Which_any _ _ _ _ _ _ _ _ _ _ hm1).mono ?_
  rw [if_pos HC.out, HW.out]
  rintro e w1 ⟨rfl, hb1⟩
  go_wp2
  go_ret
  exact ⟨by simp, (by repeat' (first | with_reducible exact Below.refl _ _ | with_reducible assumption | with_reducible apply Below.drew | with_reducible apply below_drewN | with_reducible apply Below.alloc | with_reducible apply Below.setCell | (with_reducible refine Below.trans ?_ (Below.mono (by assumption) ?_)) | (simp; done) | (simp; omega) | omega | with_reducible apply le_size_alloc | with_reducible apply le_size_drewN | with_reducible apply le_size_drew | with_reducible apply le_size_setCell | refine Nat.le_trans ?_ (Below.size (by assumption))))⟩


theorem smallLen {n : Nat} (h : n ≤ 256) : n ≤ 140737488351232 := by omega

set_option maxHeartbeats 400000 in
theorem awake_any (w : World) : Calls Try.prog 12 #[] w fun e w' => e = .returned (.bool true) ∧ Below w.heap.size w w' := by
  go_enter Try.func12, Try.ntmps12
  go_wp2_with fail
  refine (Target_any _ _).mono ?_
  rw [if_pos (by omega), show tgt 48 = 12 from by decide]
  rintro e w1 ⟨rfl, rfl⟩
  go_wp2_with fail
  refine (lists_none _ _ _ _ _ _ _ _).mono ?_
  rintro e w2 ⟨b2, rfl, hs2, hb2⟩
  have hm2 : InMem w2 (some ⟨w.heap.size, 0, none⟩) (some ⟨w.heap.size + 1, 0, none⟩) (some ⟨b2, 0, none⟩) [3] [2, 1] (List.replicate 8 false) :=
    ⟨Sl.of_lit (t := 3) (by repeat' (first | with_reducible assumption | (with_reducible refine Blk.new_ ?_ ?_ <;> first | (simp; done) | rfl) | with_reducible apply Blk.drew_ | with_reducible apply Blk.drewN_ | with_reducible apply Blk.alloc_ | with_reducible refine Blk.far_ ?_ ?_ _ | (with_reducible refine Blk.below_ ?_ (by assumption) ?_) | (simp; done) | (simp; omega) | omega | with_reducible apply le_size_alloc | with_reducible apply lt_size_alloc | with_reducible apply le_size_drewN | with_reducible apply le_size_drew | with_reducible apply le_size_setCell | refine Nat.lt_of_lt_of_le ?_ (Below.size (by assumption)) | refine Nat.le_trans ?_ (Below.size (by assumption)))), Sl.of_lit (t := 3) (by repeat' (first | with_reducible assumption | (with_reducible refine Blk.new_ ?_ ?_ <;> first | (simp; done) | rfl) | with_reducible apply Blk.drew_ | with_reducible apply Blk.drewN_ | with_reducible apply Blk.alloc_ | with_reducible refine Blk.far_ ?_ ?_ _ | (with_reducible refine Blk.below_ ?_ (by assumption) ?_) | (simp; done) | (simp; omega) | omega | with_reducible apply le_size_alloc | with_reducible apply lt_size_alloc | with_reducible apply le_size_drewN | with_reducible apply le_size_drew | with_reducible apply le_size_setCell | refine Nat.lt_of_lt_of_le ?_ (Below.size (by assumption)) | refine Nat.le_trans ?_ (Below.size (by assumption)))), hs2, by simp, by simp, by simp, by decide, by decide⟩
  go_wp2_with fail
  refine (lwhich_yes _ _ _ 1 2 8 [3] [2, 1] (List.replicate 8 false) 3 _ hm2 (by decide) (by decide)).mono ?_
  rintro e w3 ⟨rfl, hb3⟩
  go_wp2_with fail
  refine (lists_none _ _ _ _ _ _ _ _).mono ?_
  rintro e w4 ⟨b4, rfl, hs4, hb4⟩
  have hm4 : InMem w4 (some ⟨w3.heap.size, 0, none⟩) (some ⟨w3.heap.size + 1, 0, none⟩) (some ⟨b4, 0, none⟩) [3, 2] [1] (List.replicate 8 false) :=
    ⟨Sl.of_lit (t := 3) (by repeat' (first | with_reducible assumption | (with_reducible refine Blk.new_ ?_ ?_ <;> first | (simp; done) | rfl) | with_reducible apply Blk.drew_ | with_reducible apply Blk.drewN_ | with_reducible apply Blk.alloc_ | with_reducible refine Blk.far_ ?_ ?_ _ | (with_reducible refine Blk.below_ ?_ (by assumption) ?_) | (simp; done) | (simp; omega) | omega | with_reducible apply le_size_alloc | with_reducible apply lt_size_alloc | with_reducible apply le_size_drewN | with_reducible apply le_size_drew | with_reducible apply le_size_setCell | refine Nat.lt_of_lt_of_le ?_ (Below.size (by assumption)) | refine Nat.le_trans ?_ (Below.size (by assumption)))), Sl.of_lit (t := 3) (by repeat' (first | with_reducible assumption | (with_reducible refine Blk.new_ ?_ ?_ <;> first | (simp; done) | rfl) | with_reducible apply Blk.drew_ | with_reducible apply Blk.drewN_ | with_reducible apply Blk.alloc_ | with_reducible refine Blk.far_ ?_ ?_ _ | (with_reducible refine Blk.below_ ?_ (by assumption) ?_) | (simp; done) | (simp; omega) | omega | with_reducible apply le_size_alloc | with_reducible apply lt_size_alloc | with_reducible apply le_size_drewN | with_reducible apply le_size_drew | with_reducible apply le_size_setCell | refine Nat.lt_of_lt_of_le ?_ (Below.size (by assumption)) | refine Nat.le_trans ?_ (Below.size (by assumption)))), hs4, by simp, by simp, by simp, by decide, by decide⟩
  go_wp2_with fail
  refine (lwhich_yes _ _ _ 2 1 8 [3, 2] [1] (List.replicate 8 false) 1 _ hm4 (by decide) (by decide)).mono ?_
  rintro e w5 ⟨rfl, hb5⟩
  go_wp2
  go_ret
  exact ⟨by simp, (by repeat' (first | with_reducible exact Below.refl _ _ | with_reducible assumption | with_reducible apply Below.drew | with_reducible apply below_drewN | with_reducible apply Below.alloc | with_reducible apply Below.setCell | (with_reducible refine Below.trans ?_ (Below.mono (by assumption) ?_)) | (simp; done) | (simp; omega) | omega | with_reducible apply le_size_alloc | with_reducible apply le_size_drewN | with_reducible apply le_size_drew | with_reducible apply le_size_setCell | refine Nat.le_trans ?_ (Below.size (by assumption))))⟩
end Go.Proofs.Ytifimhfdapkpoaa
