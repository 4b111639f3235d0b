/- Contracts of the kit's functions that hold lists against each other. -/
import Derived.Test.YtiobbdfkimpfbaaMem
namespace Go.Proofs.Ytiobbdfkimpfbaa
set_option linter.unusedSimpArgs false
set_option linter.unusedVariables false
open Go.RowKit Go.Maps

set_option maxHeartbeats 1000000 in
theorem SameInts_any (A B : Option Addr) (c d : Nat) (xs ys : List Int) (w : World) (ha : Sl w (.int .i64) A xs) (hb : Sl w (.int .i64) B ys) (la : xs.length ≤ 100000) (lb : ys.length ≤ 100000) :
    Calls Try.prog 20 #[.slice A xs.length c, .slice B ys.length d] w fun e w' => e = .returned (.bool (decide (xs = ys))) ∧ Below w.heap.size w w' := by
  have HA := Lib.hid ha; have HB := Lib.hid hb
  clear ha hb
  by_cases hl : xs.length = ys.length
  · have hl' : ((xs.length : Int) != ys.length) = false := by simp [hl]
    have HL := Lib.hid hl
    have h1 : xs.length ≤ ys.length := by omega
    have h2 : ys.length ≤ xs.length := by omega
    clear hl
    go_enter Try.func20, Try.ntmps20
    go_wp2
    go_loopw [5] (fun i wr => ∃ k : Nat, k ≤ xs.length ∧ i = .int .i64 k ∧ Hid (∀ m : Nat, m < k → xs[m]? = ys[m]?) ∧ Below w.heap.size w wr) (fun i _ => xs.length - (intOf i).toNat)
    case atStart => exact ⟨0, by omega, rfl, fun m hm => absurd hm (by omega), Below.refl _ _⟩
    case round =>
      obtain ⟨k, hk, rfl, HK, hbw⟩ := hrel
      by_cases hlt : k < xs.length
      · obtain ⟨b, off, x, rfl, hbl, hx, hc⟩ := (HA.out.ext hbw).at_ hlt
        obtain ⟨b', off', y, rfl, hbl', hy, hc'⟩ := (HB.out.ext hbw).at_ (show k < ys.length by omega)
        have hlt' : k < ys.length := by omega
        have i1 : (k : Int) < xs.length := by omega
        have i2 : (k : Int) < ys.length := by omega
        have HX := Lib.hid hx; have HY := Lib.hid hy
        clear hx hy
        by_cases e : x = y
        · subst e
          go_wp2
          go_quiet (fail)
          go_wp2
          go_roundw
          case rel =>
            refine ⟨k + 1, by omega, by go_num, fun m hm => ?_, (by repeat' (first | with_reducible exact Below.refl _ _ | with_reducible assumption | with_reducible apply Below.drew | with_reducible apply below_drewN | with_reducible apply Below.alloc | with_reducible apply Below.setCell | (with_reducible refine Below.trans ?_ (Below.mono (by assumption) ?_)) | (simp; done) | (simp; omega) | omega | with_reducible apply le_size_alloc | with_reducible apply le_size_drewN | with_reducible apply le_size_drew | with_reducible apply le_size_setCell | refine Nat.le_trans ?_ (Below.size (by assumption))))⟩
            rcases (by omega : m < k ∨ m = k) with h | rfl
            · exact HK.out m h
            · exact HX.out.trans HY.out.symm
          case measure => simp [intOf]; omega
        · have he : (x != y) = true := by simpa using e
          have HD : Hid (decide (xs = ys) = false) := by
            show _ = _
            refine decide_eq_false (fun h => e ?_)
            subst h
            have := HX.out.symm.trans HY.out
            injection this
          clear e
          go_wp2
          go_quiet (fail)
          go_wp2
          go_ret
          exact ⟨ret_bool HD.out.symm, (by repeat' (first | with_reducible exact Below.refl _ _ | with_reducible assumption | with_reducible apply Below.drew | with_reducible apply below_drewN | with_reducible apply Below.alloc | with_reducible apply Below.setCell | (with_reducible refine Below.trans ?_ (Below.mono (by assumption) ?_)) | (simp; done) | (simp; omega) | omega | with_reducible apply le_size_alloc | with_reducible apply le_size_drewN | with_reducible apply le_size_drew | with_reducible apply le_size_setCell | refine Nat.le_trans ?_ (Below.size (by assumption))))⟩
      · have HD : Hid (decide (xs = ys) = true) := by
          show _ = _
          refine decide_eq_true (List.ext_getElem? fun m => ?_)
          rcases (by omega : m < k ∨ k ≤ m) with h | h
          · exact HK.out m h
          · rw [List.getElem?_eq_none (by omega), List.getElem?_eq_none (by omega)]
        go_wp2
        go_ret
        exact ⟨ret_bool HD.out.symm, (by repeat' (first | with_reducible exact Below.refl _ _ | with_reducible assumption | with_reducible apply Below.drew | with_reducible apply below_drewN | with_reducible apply Below.alloc | with_reducible apply Below.setCell | (with_reducible refine Below.trans ?_ (Below.mono (by assumption) ?_)) | (simp; done) | (simp; omega) | omega | with_reducible apply le_size_alloc | with_reducible apply le_size_drewN | with_reducible apply le_size_drew | with_reducible apply le_size_setCell | refine Nat.le_trans ?_ (Below.size (by assumption))))⟩
  · have hl' : ((xs.length : Int) != ys.length) = true := by simp; omega
    have HD : Hid (decide (xs = ys) = false) := by
      show _ = _
      exact decide_eq_false (fun h => hl (by rw [h]))
    clear hl
    go_enter Try.func20, Try.ntmps20
    go_wp2
    go_ret
    exact ⟨ret_bool HD.out.symm, (by repeat' (first | with_reducible exact Below.refl _ _ | with_reducible assumption | with_reducible apply Below.drew | with_reducible apply below_drewN | with_reducible apply Below.alloc | with_reducible apply Below.setCell | (with_reducible refine Below.trans ?_ (Below.mono (by assumption) ?_)) | (simp; done) | (simp; omega) | omega | with_reducible apply le_size_alloc | with_reducible apply le_size_drewN | with_reducible apply le_size_drew | with_reducible apply le_size_setCell | refine Nat.le_trans ?_ (Below.size (by assumption))))⟩

set_option maxHeartbeats 1000000 in
theorem SameBools_any (A B : Option Addr) (c d : Nat) (xs ys : List Bool) (w : World) (ha : Sl w .bool A xs) (hb : Sl w .bool B ys) (la : xs.length ≤ 100000) (lb : ys.length ≤ 100000) :
    Calls Try.prog 45 #[.slice A xs.length c, .slice B ys.length d] w fun e w' => e = .returned (.bool (decide (xs = ys))) ∧ Below w.heap.size w w' := by
  have HA := Lib.hid ha; have HB := Lib.hid hb
  clear ha hb
  by_cases hl : xs.length = ys.length
  · have hl' : ((xs.length : Int) != ys.length) = false := by simp [hl]
    have HL := Lib.hid hl
    have h1 : xs.length ≤ ys.length := by omega
    have h2 : ys.length ≤ xs.length := by omega
    clear hl
    go_enter Try.func45, Try.ntmps45
    go_wp2
    go_loopw [5] (fun i wr => ∃ k : Nat, k ≤ xs.length ∧ i = .int .i64 k ∧ Hid (∀ m : Nat, m < k → xs[m]? = ys[m]?) ∧ Below w.heap.size w wr) (fun i _ => xs.length - (intOf i).toNat)
    case atStart => exact ⟨0, by omega, rfl, fun m hm => absurd hm (by omega), Below.refl _ _⟩
    case round =>
      obtain ⟨k, hk, rfl, HK, hbw⟩ := hrel
      by_cases hlt : k < xs.length
      · obtain ⟨b, off, x, rfl, hbl, hx, hc⟩ := (HA.out.ext hbw).at_ hlt
        obtain ⟨b', off', y, rfl, hbl', hy, hc'⟩ := (HB.out.ext hbw).at_ (show k < ys.length by omega)
        have hlt' : k < ys.length := by omega
        have i1 : (k : Int) < xs.length := by omega
        have i2 : (k : Int) < ys.length := by omega
        have HX := Lib.hid hx; have HY := Lib.hid hy
        clear hx hy
        by_cases e : x = y
        · subst e
          cases x
          all_goals
            go_wp2
            go_quiet (fail)
            go_wp2
            go_roundw
            case rel =>
              refine ⟨k + 1, by omega, by go_num, fun m hm => ?_, (by repeat' (first | with_reducible exact Below.refl _ _ | with_reducible assumption | with_reducible apply Below.drew | with_reducible apply below_drewN | with_reducible apply Below.alloc | with_reducible apply Below.setCell | (with_reducible refine Below.trans ?_ (Below.mono (by assumption) ?_)) | (simp; done) | (simp; omega) | omega | with_reducible apply le_size_alloc | with_reducible apply le_size_drewN | with_reducible apply le_size_drew | with_reducible apply le_size_setCell | refine Nat.le_trans ?_ (Below.size (by assumption))))⟩
              rcases (by omega : m < k ∨ m = k) with h | rfl
              · exact HK.out m h
              · exact HX.out.trans HY.out.symm
            case measure => simp [intOf]; omega
        · have he : (x != y) = true := by simpa using e
          have HD : Hid (decide (xs = ys) = false) := by
            show _ = _
            refine decide_eq_false (fun h => e ?_)
            subst h
            have := HX.out.symm.trans HY.out
            injection this
          cases x <;> cases y <;> first
            | exact absurd rfl e
            | (clear e
               go_wp2
               go_quiet (fail)
               go_wp2
               go_ret
               exact ⟨ret_bool HD.out.symm, (by repeat' (first | with_reducible exact Below.refl _ _ | with_reducible assumption | with_reducible apply Below.drew | with_reducible apply below_drewN | with_reducible apply Below.alloc | with_reducible apply Below.setCell | (with_reducible refine Below.trans ?_ (Below.mono (by assumption) ?_)) | (simp; done) | (simp; omega) | omega | with_reducible apply le_size_alloc | with_reducible apply le_size_drewN | with_reducible apply le_size_drew | with_reducible apply le_size_setCell | refine Nat.le_trans ?_ (Below.size (by assumption))))⟩)
      · have HD : Hid (decide (xs = ys) = true) := by
          show _ = _
          refine decide_eq_true (List.ext_getElem? fun m => ?_)
          rcases (by omega : m < k ∨ k ≤ m) with h | h
          · exact HK.out m h
          · rw [List.getElem?_eq_none (by omega), List.getElem?_eq_none (by omega)]
        go_wp2
        go_ret
        exact ⟨ret_bool HD.out.symm, (by repeat' (first | with_reducible exact Below.refl _ _ | with_reducible assumption | with_reducible apply Below.drew | with_reducible apply below_drewN | with_reducible apply Below.alloc | with_reducible apply Below.setCell | (with_reducible refine Below.trans ?_ (Below.mono (by assumption) ?_)) | (simp; done) | (simp; omega) | omega | with_reducible apply le_size_alloc | with_reducible apply le_size_drewN | with_reducible apply le_size_drew | with_reducible apply le_size_setCell | refine Nat.le_trans ?_ (Below.size (by assumption))))⟩
  · have hl' : ((xs.length : Int) != ys.length) = true := by simp; omega
    have HD : Hid (decide (xs = ys) = false) := by
      show _ = _
      exact decide_eq_false (fun h => hl (by rw [h]))
    clear hl
    go_enter Try.func45, Try.ntmps45
    go_wp2
    go_ret
    exact ⟨ret_bool HD.out.symm, (by repeat' (first | with_reducible exact Below.refl _ _ | with_reducible assumption | with_reducible apply Below.drew | with_reducible apply below_drewN | with_reducible apply Below.alloc | with_reducible apply Below.setCell | (with_reducible refine Below.trans ?_ (Below.mono (by assumption) ?_)) | (simp; done) | (simp; omega) | omega | with_reducible apply le_size_alloc | with_reducible apply le_size_drewN | with_reducible apply le_size_drew | with_reducible apply le_size_setCell | refine Nat.le_trans ?_ (Below.size (by assumption))))⟩

set_option maxHeartbeats 1000000 in
theorem SameLists_any (Aa Ai Ar Ba Bi Br : Option Addr) (ca ci cr da di dr : Nat) (xs ys xs' ys' : List Int) (rs rs' : List Bool) (w : World)
    (ha : Sl w (.int .i64) Aa xs) (hi : Sl w (.int .i64) Ai ys) (hr : Sl w .bool Ar rs) (ha' : Sl w (.int .i64) Ba xs') (hi' : Sl w (.int .i64) Bi ys') (hr' : Sl w .bool Br rs')
    (l1 : xs.length ≤ 100000) (l2 : ys.length ≤ 100000) (l3 : rs.length ≤ 100000) (l4 : xs'.length ≤ 100000) (l5 : ys'.length ≤ 100000) (l6 : rs'.length ≤ 100000) :
    Calls Try.prog 15 #[.agg #[.slice Aa xs.length ca, .slice Ai ys.length ci, .slice Ar rs.length cr], .agg #[.slice Ba xs'.length da, .slice Bi ys'.length di, .slice Br rs'.length dr]] w fun e w' =>
      e = .returned (.bool (decide (xs = xs' ∧ ys = ys' ∧ rs = rs'))) ∧ Below w.heap.size w w' := by
  obtain ⟨W0, hW0⟩ : ∃ W0, W0 = (w.alloc (.cells #[.slice Aa xs.length ca, .slice Ai ys.length ci, .slice Ar rs.length cr] 25)).alloc (.cells #[.slice Ba xs'.length da, .slice Bi ys'.length di, .slice Br rs'.length dr] 25) := ⟨_, rfl⟩
  have hb0 : Below w.heap.size w W0 := by rw [hW0]; exact (by repeat' (first | with_reducible exact Below.refl _ _ | with_reducible assumption | with_reducible apply Below.drew | with_reducible apply below_drewN | with_reducible apply Below.alloc | with_reducible apply Below.setCell | (with_reducible refine Below.trans ?_ (Below.mono (by assumption) ?_)) | (simp; done) | (simp; omega) | omega | with_reducible apply le_size_alloc | with_reducible apply le_size_drewN | with_reducible apply le_size_drew | with_reducible apply le_size_setCell | refine Nat.le_trans ?_ (Below.size (by assumption))))
  have H1 := Lib.hid (ha.ext hb0); have H2 := Lib.hid (hi.ext hb0); have H3 := Lib.hid (hr.ext hb0)
  have H4 := Lib.hid (ha'.ext hb0); have H5 := Lib.hid (hi'.ext hb0); have H6 := Lib.hid (hr'.ext hb0)
  clear ha hi hr ha' hi' hr' hb0
  have key : ∀ b1 : Bool, b1 = decide (xs = xs') → ∀ b2 : Bool, b2 = decide (ys = ys') → ∀ b3 : Bool, b3 = decide (rs = rs') → (b1 && (b2 && b3)) = decide (xs = xs' ∧ ys = ys' ∧ rs = rs') := by
    rintro _ rfl _ rfl _ rfl
    simp
  obtain ⟨b1, e1⟩ : ∃ b1, b1 = decide (xs = xs') := ⟨_, rfl⟩
  obtain ⟨b2, e2⟩ : ∃ b2, b2 = decide (ys = ys') := ⟨_, rfl⟩
  obtain ⟨b3, e3⟩ : ∃ b3, b3 = decide (rs = rs') := ⟨_, rfl⟩
  have HK := Lib.hid (key b1 e1 b2 e2 b3 e3)
  have E1 := Lib.hid e1; have E2 := Lib.hid e2; have E3 := Lib.hid e3
  clear key e1 e2 e3
  subst hW0
  cases b1 with
  | false =>
    go_enter Try.func15, Try.ntmps15
    go_wp2_with fail
    refine (SameInts_any _ _ _ _ _ _ _ H1.out H4.out l1 l4).mono ?_
    rw [← E1.out]
    rintro e w1 ⟨rfl, hb1⟩
    go_wp2
    go_ret
    exact ⟨ret_bool (by rw [← HK.out]; rfl), (by repeat' (first | with_reducible exact Below.refl _ _ | with_reducible assumption | with_reducible apply Below.drew | with_reducible apply below_drewN | with_reducible apply Below.alloc | with_reducible apply Below.setCell | (with_reducible refine Below.trans ?_ (Below.mono (by assumption) ?_)) | (simp; done) | (simp; omega) | omega | with_reducible apply le_size_alloc | with_reducible apply le_size_drewN | with_reducible apply le_size_drew | with_reducible apply le_size_setCell | refine Nat.le_trans ?_ (Below.size (by assumption))))⟩
  | true =>
    cases b2 with
    | false =>
      go_enter Try.func15, Try.ntmps15
      go_wp2_with fail
      refine (SameInts_any _ _ _ _ _ _ _ H1.out H4.out l1 l4).mono ?_
      rw [← E1.out]
      rintro e w1 ⟨rfl, hb1⟩
      have p1 : w1.cell? ⟨w.heap.size, 1, none⟩ = some (.slice Ai ys.length ci) := cell_keep hb1 (by simp) (by first | (simp; done) | (simp; omega))
      have p2 : w1.cell? ⟨w.heap.size + 1, 1, none⟩ = some (.slice Bi ys'.length di) := cell_keep hb1 (by simp) (by first | (simp; done) | (simp; omega))
      go_wp2_with fail
      refine (SameInts_any _ _ _ _ _ _ _ (H2.out.ext hb1) (H5.out.ext hb1) l2 l5).mono ?_
      rw [← E2.out]
      rintro e w2 ⟨rfl, hb2⟩
      go_wp2
      go_ret
      exact ⟨ret_bool (by rw [← HK.out]; rfl), (by repeat' (first | with_reducible exact Below.refl _ _ | with_reducible assumption | with_reducible apply Below.drew | with_reducible apply below_drewN | with_reducible apply Below.alloc | with_reducible apply Below.setCell | (with_reducible refine Below.trans ?_ (Below.mono (by assumption) ?_)) | (simp; done) | (simp; omega) | omega | with_reducible apply le_size_alloc | with_reducible apply le_size_drewN | with_reducible apply le_size_drew | with_reducible apply le_size_setCell | refine Nat.le_trans ?_ (Below.size (by assumption))))⟩
    | true =>
      go_enter Try.func15, Try.ntmps15
      go_wp2_with fail
      refine (SameInts_any _ _ _ _ _ _ _ H1.out H4.out l1 l4).mono ?_
      rw [← E1.out]
      rintro e w1 ⟨rfl, hb1⟩
      have p1 : w1.cell? ⟨w.heap.size, 1, none⟩ = some (.slice Ai ys.length ci) := cell_keep hb1 (by simp) (by first | (simp; done) | (simp; omega))
      have p2 : w1.cell? ⟨w.heap.size + 1, 1, none⟩ = some (.slice Bi ys'.length di) := cell_keep hb1 (by simp) (by first | (simp; done) | (simp; omega))
      have p3 : w1.cell? ⟨w.heap.size, 2, none⟩ = some (.slice Ar rs.length cr) := cell_keep hb1 (by simp) (by first | (simp; done) | (simp; omega))
      have p4 : w1.cell? ⟨w.heap.size + 1, 2, none⟩ = some (.slice Br rs'.length dr) := cell_keep hb1 (by simp) (by first | (simp; done) | (simp; omega))
      have z1 : w.heap.size + 2 ≤ w1.heap.size := by have := hb1.size; simp at this; omega
      go_wp2_with fail
      refine (SameInts_any _ _ _ _ _ _ _ (H2.out.ext hb1) (H5.out.ext hb1) l2 l5).mono ?_
      rw [← E2.out]
      rintro e w2 ⟨rfl, hb2⟩
      have p5 : w2.cell? ⟨w.heap.size, 2, none⟩ = some (.slice Ar rs.length cr) := cell_keep hb2 p3 (by show w.heap.size < _; omega)
      have p6 : w2.cell? ⟨w.heap.size + 1, 2, none⟩ = some (.slice Br rs'.length dr) := cell_keep hb2 p4 (by show w.heap.size + 1 < _; omega)
      go_wp2_with fail
      refine (SameBools_any _ _ _ _ _ _ _ ((H3.out.ext hb1).ext hb2) ((H6.out.ext hb1).ext hb2) l3 l6).mono ?_
      rw [← E3.out]
      rintro e w3 ⟨rfl, hb3⟩
      go_wp2
      go_ret
      exact ⟨ret_bool (by rw [← HK.out]; simp), (by repeat' (first | with_reducible exact Below.refl _ _ | with_reducible assumption | with_reducible apply Below.drew | with_reducible apply below_drewN | with_reducible apply Below.alloc | with_reducible apply Below.setCell | (with_reducible refine Below.trans ?_ (Below.mono (by assumption) ?_)) | (simp; done) | (simp; omega) | omega | with_reducible apply le_size_alloc | with_reducible apply le_size_drewN | with_reducible apply le_size_drew | with_reducible apply le_size_setCell | refine Nat.le_trans ?_ (Below.size (by assumption))))⟩
end Go.Proofs.Ytiobbdfkimpfbaa
