/- Slices of writes (three ints each), and the kit's functions on them. -/
import Derived.Test.YtnglompninkmbaaHeldM
import Derived.Test.YtnglompninkmbaaSlices
namespace Go.Proofs.Ytnglompninkmbaa
open Go.RowKit Go.Maps

/-- A write: slot, frame, claim. -/
abbrev Wr := Int × Int × Int
def flat (l : List Wr) : List Int := l.flatMap fun x => [x.1, x.2.1, x.2.2]
theorem flat_length (l : List Wr) : (flat l).length = l.length * 3 := by
  induction l with
  | nil => rfl
  | cons x l ih => simp only [flat, List.flatMap_cons, List.length_append] at ih ⊢; rw [ih]; simp; omega
theorem flat_append (l k : List Wr) : flat (l ++ k) = flat l ++ flat k := by simp [flat]
theorem flat_at {x : Wr} : ∀ {l : List Wr} {k : Nat}, l[k]? = some x → (flat l)[k * 3]? = some x.1 ∧ (flat l)[k * 3 + 1]? = some x.2.1 ∧ (flat l)[k * 3 + 2]? = some x.2.2
  | [], _, h => by simp at h
  | y :: l, 0, h => by
    simp only [List.getElem?_cons_zero, Option.some.injEq] at h
    subst h
    simp [flat]
  | y :: l, k + 1, h => by
    obtain ⟨h1, h2, h3⟩ := flat_at (l := l) (k := k) (by simpa using h)
    have e : flat (y :: l) = y.1 :: y.2.1 :: y.2.2 :: flat l := rfl
    rw [e]
    refine ⟨?_, ?_, ?_⟩
    · rw [show (k + 1) * 3 = k * 3 + 1 + 1 + 1 by omega]; simpa using h1
    · rw [show (k + 1) * 3 + 1 = k * 3 + 1 + 1 + 1 + 1 by omega]; simpa using h2
    · rw [show (k + 1) * 3 + 2 = k * 3 + 2 + 1 + 1 + 1 by omega]; simpa using h3
/-- The slice value '.slice A l.length c' holds the writes l. -/
def SW (w : World) (A : Option Addr) (l : List Wr) : Prop := Sl w (Value.int .i64) A (flat l)
theorem SW.ext {w w' : World} {A : Option Addr} {l : List Wr} (h : SW w A l) (hb : Below w.heap.size w w') : SW w' A l := Sl.ext h hb
theorem SW.nil {w : World} {A : Option Addr} : SW w A [] := Sl.nil
theorem SW.at_ {w : World} {A : Option Addr} {l : List Wr} {k : Nat} (h : SW w A l) (hk : k < l.length) :
    ∃ b off x, A = some ⟨b, off, none⟩ ∧ b < w.heap.size ∧ l[k]? = some x ∧ w.cell? ⟨b, off + k * 3, none⟩ = some (.int .i64 x.1) ∧ w.cell? ⟨b, off + k * 3 + 1, none⟩ = some (.int .i64 x.2.1) ∧ w.cell? ⟨b, off + k * 3 + 2, none⟩ = some (.int .i64 x.2.2) := by
  obtain ⟨b, off, e, hb, hc⟩ := h (by rw [flat_length]; omega)
  obtain ⟨h1, h2, h3⟩ := flat_at (l := l) (k := k) (x := l[k]) (List.getElem?_eq_getElem hk)
  exact ⟨b, off, l[k], e, hb, List.getElem?_eq_getElem hk, hc _ _ h1, hc _ _ h2, hc _ _ h3⟩

theorem eq_wr (w : World) (x y : Wr) : (Op.equal 28 (.agg #[.int .i64 x.1, .int .i64 x.2.1, .int .i64 x.2.2]) (.agg #[.int .i64 y.1, .int .i64 y.2.1, .int .i64 y.2.2])).run Try.prog w = .ok (decide (x = y)) w := by
  have hs : Try.prog.stoodInHeld 28 = false := by kernel_rfl
  obtain ⟨a, b, c⟩ := x
  obtain ⟨d, e, f⟩ := y
  have h0 := part_int w #[.int .i64 a, .int .i64 b, .int .i64 c] 0 (.int .i64 a) rfl
  have h1 := part_int w #[.int .i64 a, .int .i64 b, .int .i64 c] 1 (.int .i64 b) rfl
  have h2 := part_int w #[.int .i64 a, .int .i64 b, .int .i64 c] 2 (.int .i64 c) rfl
  have h3 := part_int w #[.int .i64 d, .int .i64 e, .int .i64 f] 0 (.int .i64 d) rfl
  have h4 := part_int w #[.int .i64 d, .int .i64 e, .int .i64 f] 1 (.int .i64 e) rfl
  have h5 := part_int w #[.int .i64 d, .int .i64 e, .int .i64 f] 2 (.int .i64 f) rfl
  have e1 := eqIn_int w 9998 a d
  have e2 := eqIn_int w 9998 b e
  have e3 := eqIn_int w 9998 c f
  unfold Op.equal
  show (Op.equalIn (9999 + 1) _ _ _).run _ _ = _
  unfold Op.equalIn
  simp only [Sem.run_bind, run_underlying Try.underlying28, Result.andThen_ok]
  simp [hs, h0, h1, h2, h3, h4, h5, e1, e2, e3]
  by_cases h : a = d <;> by_cases h' : b = e <;> by_cases h'' : c = f <;> simp [h, h', h'']

set_option maxRecDepth 100000 in
set_option maxHeartbeats 1000000 in
theorem SameWrites_any (A B : Option Addr) (c d : Nat) (l k : List Wr) (w : World) (ha : SW w A l) (hb : SW w B k) (la : l.length ≤ 1000) (lb : k.length ≤ 1000) :
    Calls Try.prog 13 #[.slice A l.length c, .slice B k.length d] w fun e w' => e = .returned (.bool (decide (l = k))) ∧ Below w.heap.size w w' := by
  have HA := Lib.hid ha; have HB := Lib.hid hb
  clear ha hb
  by_cases hl : l.length = k.length
  · have hl' : ((l.length : Int) != k.length) = false := by simp [hl]
    have HL := Lib.hid hl
    have h1 : l.length ≤ k.length := by omega
    have h2 : k.length ≤ l.length := by omega
    clear hl
    go_enter Try.func13, Try.ntmps13
    go_wp2
    go_loopw [5] (fun i wr => ∃ j : Nat, j ≤ l.length ∧ i = .int .i64 j ∧ Hid (∀ m : Nat, m < j → l[m]? = k[m]?) ∧ Below w.heap.size w wr) (fun i _ => l.length - (intOf i).toNat)
    case atStart => exact ⟨0, by omega, rfl, fun m hm => absurd hm (by omega), Below.refl _ _⟩
    case round =>
      obtain ⟨j, hj, rfl, HK, hbw⟩ := hrel
      by_cases hlt : j < l.length
      · obtain ⟨b, off, x, rfl, hbl, hx, hc, hc1, hc2⟩ := (HA.out.ext hbw).at_ hlt
        obtain ⟨b', off', y, rfl, hbl', hy, hd, hd1, hd2⟩ := (HB.out.ext hbw).at_ (show j < k.length by omega)
        have hlt' : j < k.length := by omega
        have i1 : (j : Int) < l.length := by omega
        have i2 : (j : Int) < k.length := by omega
        have HX := Lib.hid hx; have HY := Lib.hid hy
        clear hx hy
        have heq := fun W => eq_wr W x y
        by_cases e : x = y
        · subst e
          rw [decide_eq_true rfl] at heq
          go_wp2
          go_quiet (fail)
          go_wp2
          go_roundw
          case rel =>
            refine ⟨j + 1, by omega, by go_num, fun m hm => ?_, (by repeat' (first | with_reducible exact Below.refl _ _ | with_reducible assumption | with_reducible apply Below.drew | with_reducible apply below_drewN | with_reducible apply Below.alloc | with_reducible apply Below.setCell | (with_reducible refine Below.trans ?_ (Below.mono (by assumption) ?_)) | (simp; done) | (simp; omega) | omega | with_reducible apply le_size_alloc | with_reducible apply le_size_drewN | with_reducible apply le_size_drew | with_reducible apply le_size_setCell | refine Nat.le_trans ?_ (Below.size (by assumption))))⟩
            rcases (by omega : m < j ∨ m = j) with h | rfl
            · exact HK.out m h
            · exact HX.out.trans HY.out.symm
          case measure => simp [intOf]; omega
        · rw [decide_eq_false e] at heq
          have HD : Hid (decide (l = k) = false) := by
            show _ = _
            refine decide_eq_false (fun h => e ?_)
            subst h
            have := HX.out.symm.trans HY.out
            injection this
          have e' : x.1 ≠ y.1 ∨ (x.1 = y.1 ∧ x.2.1 ≠ y.2.1) ∨ (x.1 = y.1 ∧ x.2.1 = y.2.1 ∧ x.2.2 ≠ y.2.2) := by
            by_cases e1 : x.1 = y.1
            · by_cases e2 : x.2.1 = y.2.1
              · exact .inr (.inr ⟨e1, e2, fun e3 => e (Prod.ext e1 (Prod.ext e2 e3))⟩)
              · exact .inr (.inl ⟨e1, e2⟩)
            · exact .inl e1
          clear e heq
          rcases e' with e | ⟨e0, e⟩ | ⟨e0, e1, e⟩
          · have eb : (x.1 == y.1) = false := by simpa using e
            go_wp2
            go_quiet (fail)
            go_wp2
            go_ret
            exact ⟨ret_bool HD.out.symm, (by repeat' (first | with_reducible exact Below.refl _ _ | with_reducible assumption | with_reducible apply Below.drew | with_reducible apply below_drewN | with_reducible apply Below.alloc | with_reducible apply Below.setCell | (with_reducible refine Below.trans ?_ (Below.mono (by assumption) ?_)) | (simp; done) | (simp; omega) | omega | with_reducible apply le_size_alloc | with_reducible apply le_size_drewN | with_reducible apply le_size_drew | with_reducible apply le_size_setCell | refine Nat.le_trans ?_ (Below.size (by assumption))))⟩
          · have eb : (x.2.1 == y.2.1) = false := by simpa using e
            rw [e0] at hc
            go_wp2
            go_quiet (fail)
            go_wp2
            go_ret
            exact ⟨ret_bool HD.out.symm, (by repeat' (first | with_reducible exact Below.refl _ _ | with_reducible assumption | with_reducible apply Below.drew | with_reducible apply below_drewN | with_reducible apply Below.alloc | with_reducible apply Below.setCell | (with_reducible refine Below.trans ?_ (Below.mono (by assumption) ?_)) | (simp; done) | (simp; omega) | omega | with_reducible apply le_size_alloc | with_reducible apply le_size_drewN | with_reducible apply le_size_drew | with_reducible apply le_size_setCell | refine Nat.le_trans ?_ (Below.size (by assumption))))⟩
          · have eb : (x.2.2 == y.2.2) = false := by simpa using e
            rw [e0] at hc
            rw [e1] at hc1
            go_wp2
            go_quiet (fail)
            go_wp2
            go_ret
            exact ⟨ret_bool HD.out.symm, (by repeat' (first | with_reducible exact Below.refl _ _ | with_reducible assumption | with_reducible apply Below.drew | with_reducible apply below_drewN | with_reducible apply Below.alloc | with_reducible apply Below.setCell | (with_reducible refine Below.trans ?_ (Below.mono (by assumption) ?_)) | (simp; done) | (simp; omega) | omega | with_reducible apply le_size_alloc | with_reducible apply le_size_drewN | with_reducible apply le_size_drew | with_reducible apply le_size_setCell | refine Nat.le_trans ?_ (Below.size (by assumption))))⟩
      · have HD : Hid (decide (l = k) = true) := by
          show _ = _
          refine decide_eq_true (List.ext_getElem? fun m => ?_)
          rcases (by omega : m < j ∨ j ≤ m) with h | h
          · exact HK.out m h
          · rw [List.getElem?_eq_none (by omega), List.getElem?_eq_none (by omega)]
        go_wp2
        go_ret
        exact ⟨ret_bool HD.out.symm, (by repeat' (first | with_reducible exact Below.refl _ _ | with_reducible assumption | with_reducible apply Below.drew | with_reducible apply below_drewN | with_reducible apply Below.alloc | with_reducible apply Below.setCell | (with_reducible refine Below.trans ?_ (Below.mono (by assumption) ?_)) | (simp; done) | (simp; omega) | omega | with_reducible apply le_size_alloc | with_reducible apply le_size_drewN | with_reducible apply le_size_drew | with_reducible apply le_size_setCell | refine Nat.le_trans ?_ (Below.size (by assumption))))⟩
  · have hl' : ((l.length : Int) != k.length) = true := by simp; omega
    have HD : Hid (decide (l = k) = false) := by
      show _ = _
      exact decide_eq_false (fun h => hl (by rw [h]))
    clear hl
    go_enter Try.func13, Try.ntmps13
    go_wp2
    go_ret
    exact ⟨ret_bool HD.out.symm, (by repeat' (first | with_reducible exact Below.refl _ _ | with_reducible assumption | with_reducible apply Below.drew | with_reducible apply below_drewN | with_reducible apply Below.alloc | with_reducible apply Below.setCell | (with_reducible refine Below.trans ?_ (Below.mono (by assumption) ?_)) | (simp; done) | (simp; omega) | omega | with_reducible apply le_size_alloc | with_reducible apply le_size_drewN | with_reducible apply le_size_drew | with_reducible apply le_size_setCell | refine Nat.le_trans ?_ (Below.size (by assumption))))⟩

set_option maxHeartbeats 1000000 in
theorem isSlot_b (n : Int) (b : Bool) (hb : decide (0 ≤ n ∧ n < 256) = b) (w : World) : Calls Try.prog 35 #[.int .i64 n] w fun e w' => e = .returned (.bool b) ∧ w = w' := by
  have HB := Lib.hid hb
  clear hb
  go_enter Try.func35, Try.ntmps35
  go_wp2
  all_goals
    go_ret
    refine ⟨ret_bool ?_, rfl⟩
    have := HB.out
    first | (rw [← this, decide_eq_true (by omega)]; done) | (rw [← this, decide_eq_false (by omega)]; done) | (simp_all; done) | (simp_all; omega)

set_option maxHeartbeats 1000000 in
theorem isFrame_b (n : Int) (b : Bool) (hb : decide (0 ≤ n ∧ n < 256) = b) (w : World) : Calls Try.prog 36 #[.int .i64 n] w fun e w' => e = .returned (.bool b) ∧ w = w' := by
  have HB := Lib.hid hb
  clear hb
  go_enter Try.func36, Try.ntmps36
  go_wp2
  all_goals
    go_ret
    refine ⟨ret_bool ?_, rfl⟩
    have := HB.out
    first | (rw [← this, decide_eq_true (by omega)]; done) | (rw [← this, decide_eq_false (by omega)]; done) | (simp_all; done) | (simp_all; omega)

set_option maxHeartbeats 1000000 in
theorem isProc_b (n : Int) (b : Bool) (hb : decide (1 ≤ n ∧ n ≤ 8) = b) (w : World) : Calls Try.prog 42 #[.int .i64 n] w fun e w' => e = .returned (.bool b) ∧ w = w' := by
  have HB := Lib.hid hb
  clear hb
  go_enter Try.func42, Try.ntmps42
  go_wp2
  all_goals
    go_ret
    refine ⟨ret_bool ?_, rfl⟩
    have := HB.out
    first | (rw [← this, decide_eq_true (by omega)]; done) | (rw [← this, decide_eq_false (by omega)]; done) | (simp_all; done) | (simp_all; omega)

end Go.Proofs.Ytnglompninkmbaa
