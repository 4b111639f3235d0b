/- Mappings and places: slices of them; the small functions of rmap, of its reference, of the kit. Written by gen_rms.py. -/
import Derived.Test.YtbeddhamnefpiaaRow
import Derived.WideKeyRuns
import Derived.Test.YtbeddhamnefpiaaKitS
namespace Go.Proofs.Ytbeddhamnefpiaa
set_option linter.unusedSimpArgs false
set_option linter.unusedVariables false
open Go.RowKit Go.Maps

theorem plain_int : Try.prog.plainKey 3 = true := by simp [Program.plainKey, Try.underlying3]
theorem part_int (w : World) (xs : Array Value) (i : Nat) (v : Value) (h : xs[i]? = some v) : (part 3 xs i).run Try.prog w = .ok v w := run_part_plain w plain_int h
theorem eqIn_int (w : World) (d : Nat) (a b : Int) : (Op.equalIn (d + 1) 3 (.int .i64 a) (.int .i64 b)).run Try.prog w = .ok (a == b) w := by
  simp [Op.equalIn, run_underlying Try.underlying3]

/-- A mapping: frame, process, page. -/
abbrev M3 := Int × Int × Int
def mapE : Elt Try.prog M3 where
  e := 59
  s := 22
  sz := 3
  bytes := 24
  z := .agg #[.int .i64 0, .int .i64 0, .int .i64 0]
  enc x := [.int .i64 x.1, .int .i64 x.2.1, .int .i64 x.2.2]
  hs := Try.underlying22
  hi := by kernel_rfl
  hz := rfl
  hlen _ := rfl
  hone _ u hu := by simp at hu; rcases hu with rfl | rfl | rfl <;> rfl
  pos := by decide
  few := by decide
theorem map_at {w : World} {A : Option Addr} {l : List M3} {k : Nat} (h : SR mapE w A l) (hk : k < l.length) :
    ∃ b off x, A = some ⟨b, off, none⟩ ∧ b < w.heap.size ∧ l[k]? = some x ∧ w.cell? ⟨b, off + k * 3, none⟩ = some (.int .i64 x.1) ∧ w.cell? ⟨b, off + k * 3 + 1, none⟩ = some (.int .i64 x.2.1) ∧ w.cell? ⟨b, off + k * 3 + 2, none⟩ = some (.int .i64 x.2.2) := by
  obtain ⟨b, off, x, e, hb, hx, hc⟩ := h.at_ hk
  exact ⟨b, off, x, e, hb, hx, hc 0 _ rfl, hc 1 _ rfl, hc 2 _ rfl⟩
/-- A place: process, page. -/
def plE : Elt Try.prog (Int × Int) where
  e := 24
  s := 32
  sz := 2
  bytes := 16
  z := .agg #[.int .i64 0, .int .i64 0]
  enc x := [.int .i64 x.1, .int .i64 x.2]
  hs := Try.underlying32
  hi := by kernel_rfl
  hz := rfl
  hlen _ := rfl
  hone _ u hu := by simp at hu; rcases hu with rfl | rfl <;> rfl
  pos := by decide
  few := by decide
theorem pl_at {w : World} {A : Option Addr} {l : List (Int × Int)} {k : Nat} (h : SR plE w A l) (hk : k < l.length) :
    ∃ b off x, A = some ⟨b, off, none⟩ ∧ b < w.heap.size ∧ l[k]? = some x ∧ w.cell? ⟨b, off + k * 2, none⟩ = some (.int .i64 x.1) ∧ w.cell? ⟨b, off + k * 2 + 1, none⟩ = some (.int .i64 x.2) := by
  obtain ⟨b, off, x, e, hb, hx, hc⟩ := h.at_ hk
  exact ⟨b, off, x, e, hb, hx, hc 0 _ rfl, hc 1 _ rfl⟩

theorem eq_pl (w : World) (x y : Int × Int) : (Op.equal 24 (.agg #[.int .i64 x.1, .int .i64 x.2]) (.agg #[.int .i64 y.1, .int .i64 y.2])).run Try.prog w = .ok (decide (x = y)) w := by
  have hs : Try.prog.stoodInHeld 24 = false := by kernel_rfl
  obtain ⟨a, b⟩ := x
  obtain ⟨c, d⟩ := y
  have h0 := part_int w #[.int .i64 a, .int .i64 b] 0 (.int .i64 a) rfl
  have h1 := part_int w #[.int .i64 a, .int .i64 b] 1 (.int .i64 b) rfl
  have h2 := part_int w #[.int .i64 c, .int .i64 d] 0 (.int .i64 c) rfl
  have h3 := part_int w #[.int .i64 c, .int .i64 d] 1 (.int .i64 d) rfl
  have e1 := eqIn_int w 9998 a c
  have e2 := eqIn_int w 9998 b d
  unfold Op.equal
  show (Op.equalIn (9999 + 1) _ _ _).run _ _ = _
  unfold Op.equalIn
  simp only [Sem.run_bind, run_underlying Try.underlying24, Result.andThen_ok]
  simp [hs, h0, h1, h2, h3, e1, e2]
  by_cases h : a = c <;> by_cases h' : b = d <;> simp [h, h']
theorem eqIn_pl (w : World) (a b c d : Int) : (Op.equalIn 9999 24 (.agg #[.int .i64 a, .int .i64 b]) (.agg #[.int .i64 c, .int .i64 d])).run Try.prog w = .ok (decide ((a, b) = (c, d))) w := by
  have hs : Try.prog.stoodInHeld 24 = false := by kernel_rfl
  have h0 := part_int w #[.int .i64 a, .int .i64 b] 0 (.int .i64 a) rfl
  have h1 := part_int w #[.int .i64 a, .int .i64 b] 1 (.int .i64 b) rfl
  have h2 := part_int w #[.int .i64 c, .int .i64 d] 0 (.int .i64 c) rfl
  have h3 := part_int w #[.int .i64 c, .int .i64 d] 1 (.int .i64 d) rfl
  have e1 := eqIn_int w 9997 a c
  have e2 := eqIn_int w 9997 b d
  show (Op.equalIn (9998 + 1) _ _ _).run _ _ = _
  unfold Op.equalIn
  simp only [Sem.run_bind, run_underlying Try.underlying24, Result.andThen_ok]
  simp [hs, h0, h1, h2, h3, e1, e2]
  by_cases h : a = c <;> by_cases h' : b = d <;> simp [h, h']
theorem part_pl (w : World) (f p q : Int) : (part 24 #[.int .i64 f, .int .i64 p, .int .i64 q] 1).run Try.prog w = .ok (.agg #[.int .i64 p, .int .i64 q]) w := by kernel_rfl
theorem eq_map (w : World) (x y : M3) : (Op.equal 59 (.agg #[.int .i64 x.1, .int .i64 x.2.1, .int .i64 x.2.2]) (.agg #[.int .i64 y.1, .int .i64 y.2.1, .int .i64 y.2.2])).run Try.prog w = .ok (decide (x = y)) w := by
  have hs : Try.prog.stoodInHeld 59 = false := by kernel_rfl
  obtain ⟨a, b, c⟩ := x
  obtain ⟨d, e, f⟩ := y
  have h0 := part_int w #[.int .i64 a, .int .i64 b, .int .i64 c] 0 (.int .i64 a) rfl
  have h1 := part_int w #[.int .i64 d, .int .i64 e, .int .i64 f] 0 (.int .i64 d) rfl
  have h2 := part_pl w a b c
  have h3 := part_pl w d e f
  have e1 := eqIn_int w 9998 a d
  have e2 := eqIn_pl w b c e f
  unfold Op.equal
  show (Op.equalIn (9999 + 1) _ _ _).run _ _ = _
  unfold Op.equalIn
  simp only [Sem.run_bind, run_underlying Try.underlying59, Result.andThen_ok]
  simp [hs, h0, h1, h2, h3, e1, e2]
  by_cases h : a = d <;> by_cases h' : b = e <;> by_cases h'' : c = f <;> simp [h, h', h'']

set_option maxHeartbeats 1000000 in
theorem isFrame_b (n : Int) (b : Bool) (hb : decide (0 ≤ n ∧ n < 256) = b) (w : World) : Calls Try.prog 42 #[.int .i64 n] w fun e w' => e = .returned (.bool b) ∧ w = w' := by
  have HB := Lib.hid hb
  clear hb
  go_enter Try.func42, Try.ntmps42
  go_wp2
  all_goals
    go_ret
    refine ⟨ret_bool ?_, rfl⟩
    have := HB.out
    first | (rw [← this, decide_eq_true (by omega)]; done) | (rw [← this, decide_eq_false (by omega)]; done) | (simp_all; done) | (simp_all; omega)

set_option maxHeartbeats 1000000 in
theorem frame_b (n : Int) (b : Bool) (hb : decide (0 ≤ n ∧ n < 256) = b) (w : World) : Calls Try.prog 45 #[.int .i64 n] w fun e w' => e = .returned (.bool b) ∧ w = w' := by
  have HB := Lib.hid hb
  clear hb
  go_enter Try.func45, Try.ntmps45
  go_wp2
  all_goals
    go_ret
    refine ⟨ret_bool ?_, rfl⟩
    have := HB.out
    first | (rw [← this, decide_eq_true (by omega)]; done) | (rw [← this, decide_eq_false (by omega)]; done) | (simp_all; done) | (simp_all; omega)

set_option maxHeartbeats 1000000 in
theorem isProc_b (n : Int) (b : Bool) (hb : decide (1 ≤ n ∧ n ≤ 8) = b) (w : World) : Calls Try.prog 52 #[.int .i64 n] w fun e w' => e = .returned (.bool b) ∧ w = w' := by
  have HB := Lib.hid hb
  clear hb
  go_enter Try.func52, Try.ntmps52
  go_wp2
  all_goals
    go_ret
    refine ⟨ret_bool ?_, rfl⟩
    have := HB.out
    first | (rw [← this, decide_eq_true (by omega)]; done) | (rw [← this, decide_eq_false (by omega)]; done) | (simp_all; done) | (simp_all; omega)

set_option maxHeartbeats 1000000 in
theorem proc_b (n : Int) (b : Bool) (hb : decide (1 ≤ n ∧ n ≤ 8) = b) (w : World) : Calls Try.prog 54 #[.int .i64 n] w fun e w' => e = .returned (.bool b) ∧ w = w' := by
  have HB := Lib.hid hb
  clear hb
  go_enter Try.func54, Try.ntmps54
  go_wp2
  all_goals
    go_ret
    refine ⟨ret_bool ?_, rfl⟩
    have := HB.out
    first | (rw [← this, decide_eq_true (by omega)]; done) | (rw [← this, decide_eq_false (by omega)]; done) | (simp_all; done) | (simp_all; omega)

/-- A place is in its ranges. -/
def okP (p : Int × Int) : Bool := decide (1 ≤ p.1 ∧ p.1 ≤ 8) && decide (0 ≤ p.2 ∧ p.2 < 64)
theorem okP_iff (p : Int × Int) : okP p = true ↔ (1 ≤ p.1 ∧ p.1 ≤ 8) ∧ 0 ≤ p.2 ∧ p.2 < 64 := by simp [okP]

set_option maxHeartbeats 1000000 in
theorem isPlace_b (p q : Int) (b : Bool) (hb : okP (p, q) = b) (w : World) : Calls Try.prog 43 #[.agg #[.int .i64 p, .int .i64 q]] w fun e w' => e = .returned (.bool b) ∧ w' = w.alloc (.cells #[.int .i64 p, .int .i64 q] 24) := by
  have HB := Lib.hid hb
  clear hb
  cases d1 : decide (1 ≤ p ∧ p ≤ 8) with
  | false =>
    have hf : Hid (false = b) := by have := HB.out; show _ = _; rw [← this]; simp [okP, d1]
    go_enter Try.func43, Try.ntmps43
    go_wp2_with (go_at_call 52; with_reducible refine (isProc_b _ _ d1 _).mono ?_; rintro e w' ⟨rfl, rfl⟩)
    go_ret
    exact ⟨ret_bool hf.out, rfl⟩
  | true =>
    have hf : Hid (decide (0 ≤ q ∧ q < 64) = b) := by have := HB.out; show _ = _; rw [← this]; simp [okP, d1]
    go_enter Try.func43, Try.ntmps43
    go_wp2_with (go_at_call 52; with_reducible refine (isProc_b _ _ d1 _).mono ?_; rintro e w' ⟨rfl, rfl⟩)
    all_goals
      go_ret
      refine ⟨ret_bool ?_, rfl⟩
      have := hf.out
      first | (rw [← this, decide_eq_true (by omega)]; done) | (rw [← this, decide_eq_false (by omega)]; done) | (simp_all; done) | (simp_all; omega)

set_option maxHeartbeats 1000000 in
theorem place_b (p q : Int) (b : Bool) (hb : okP (p, q) = b) (w : World) : Calls Try.prog 46 #[.agg #[.int .i64 p, .int .i64 q]] w fun e w' => e = .returned (.bool b) ∧ w' = w.alloc (.cells #[.int .i64 p, .int .i64 q] 24) := by
  have HB := Lib.hid hb
  clear hb
  cases d1 : decide (1 ≤ p ∧ p ≤ 8) with
  | false =>
    have hf : Hid (false = b) := by have := HB.out; show _ = _; rw [← this]; simp [okP, d1]
    go_enter Try.func46, Try.ntmps46
    go_wp2_with (go_at_call 54; with_reducible refine (proc_b _ _ d1 _).mono ?_; rintro e w' ⟨rfl, rfl⟩)
    go_ret
    exact ⟨ret_bool hf.out, rfl⟩
  | true =>
    have hf : Hid (decide (0 ≤ q ∧ q < 64) = b) := by have := HB.out; show _ = _; rw [← this]; simp [okP, d1]
    go_enter Try.func46, Try.ntmps46
    go_wp2_with (go_at_call 54; with_reducible refine (proc_b _ _ d1 _).mono ?_; rintro e w' ⟨rfl, rfl⟩)
    all_goals
      go_ret
      refine ⟨ret_bool ?_, rfl⟩
      have := hf.out
      first | (rw [← this, decide_eq_true (by omega)]; done) | (rw [← this, decide_eq_false (by omega)]; done) | (simp_all; done) | (simp_all; omega)

set_option maxRecDepth 100000 in
set_option maxHeartbeats 1000000 in
theorem SameMaps_any (A B : Option Addr) (c d : Nat) (l k : List M3) (w : World) (ha : SR mapE w A l) (hb : SR mapE w B k) (la : l.length ≤ 1000) (lb : k.length ≤ 1000) :
    Calls Try.prog 22 #[.slice A l.length c, .slice B k.length d] w fun e w' => e = .returned (.bool (decide (l = k))) ∧ Below w.heap.size w w' := by
  have HA := Lib.hid ha; have HB := Lib.hid hb
  clear ha hb
  by_cases hl : l.length = k.length
  · have hl' : ((l.length : Int) != k.length) = false := by simp [hl]
    have HL := Lib.hid hl
    have h1 : l.length ≤ k.length := by omega
    have h2 : k.length ≤ l.length := by omega
    clear hl
    go_enter Try.func22, Try.ntmps22
    go_wp2
    go_loopw [5] (fun i wr => ∃ j : Nat, j ≤ l.length ∧ i = .int .i64 j ∧ Hid (∀ m : Nat, m < j → l[m]? = k[m]?) ∧ Below w.heap.size w wr) (fun i _ => l.length - (intOf i).toNat)
    case atStart => exact ⟨0, by omega, rfl, fun m hm => absurd hm (by omega), Below.refl _ _⟩
    case round =>
      obtain ⟨j, hj, rfl, HK, hbw⟩ := hrel
      by_cases hlt : j < l.length
      · obtain ⟨b, off, x, rfl, hbl, hx, hc, hc1, hc2⟩ := map_at (HA.out.ext hbw) hlt
        obtain ⟨b', off', y, rfl, hbl', hy, hd, hd1, hd2⟩ := map_at (HB.out.ext hbw) (show j < k.length by omega)
        have hlt' : j < k.length := by omega
        have i1 : (j : Int) < l.length := by omega
        have i2 : (j : Int) < k.length := by omega
        have HX := Lib.hid hx; have HY := Lib.hid hy
        clear hx hy
        by_cases e : x = y
        · subst e
          have heq := fun W => eq_map W x x
          rw [decide_eq_true rfl] at heq
          go_wp2
          go_quiet (fail)
          go_wp2
          go_roundw
          case rel =>
            refine ⟨j + 1, by omega, by go_num, fun m hm => ?_, (by repeat' (first | with_reducible exact Below.refl _ _ | with_reducible assumption | with_reducible apply Below.drew | with_reducible apply below_drewN | with_reducible apply Below.alloc | with_reducible apply Below.setCell | (with_reducible refine Below.trans ?_ (Below.mono (by assumption) ?_)) | (simp; done) | (simp; omega) | omega | with_reducible apply le_size_alloc | with_reducible apply le_size_drewN | with_reducible apply le_size_drew | with_reducible apply le_size_setCell | refine Nat.le_trans ?_ (Below.size (by assumption))))⟩
            rcases (by omega : m < j ∨ m = j) with h | rfl
            · exact HK.out m h
            · exact HX.out.trans HY.out.symm
          case measure => simp [intOf]; omega
        · have HD : Hid (decide (l = k) = false) := by
            show _ = _
            refine decide_eq_false (fun h => e ?_)
            subst h
            have := HX.out.symm.trans HY.out
            injection this
          have e' : x.1 ≠ y.1 ∨ (x.1 = y.1 ∧ x.2.1 ≠ y.2.1) ∨ (x.1 = y.1 ∧ x.2.1 = y.2.1 ∧ x.2.2 ≠ y.2.2) := by
            by_cases e1 : x.1 = y.1
            · by_cases e2 : x.2.1 = y.2.1
              · exact .inr (.inr ⟨e1, e2, fun e3 => e (Prod.ext e1 (Prod.ext e2 e3))⟩)
              · exact .inr (.inl ⟨e1, e2⟩)
            · exact .inl e1
          clear e
          rcases e' with e | ⟨e0, e⟩ | ⟨e0, e1, e⟩
          · have eb : (x.1 == y.1) = false := by simpa using e
            go_wp2
            go_quiet (fail)
            go_wp2
            go_ret
            exact ⟨ret_bool HD.out.symm, (by repeat' (first | with_reducible exact Below.refl _ _ | with_reducible assumption | with_reducible apply Below.drew | with_reducible apply below_drewN | with_reducible apply Below.alloc | with_reducible apply Below.setCell | (with_reducible refine Below.trans ?_ (Below.mono (by assumption) ?_)) | (simp; done) | (simp; omega) | omega | with_reducible apply le_size_alloc | with_reducible apply le_size_drewN | with_reducible apply le_size_drew | with_reducible apply le_size_setCell | refine Nat.le_trans ?_ (Below.size (by assumption))))⟩
          · have eb : (x.2.1 == y.2.1) = false := by simpa using e
            rw [e0] at hc
            go_wp2
            go_quiet (fail)
            go_wp2
            go_ret
            exact ⟨ret_bool HD.out.symm, (by repeat' (first | with_reducible exact Below.refl _ _ | with_reducible assumption | with_reducible apply Below.drew | with_reducible apply below_drewN | with_reducible apply Below.alloc | with_reducible apply Below.setCell | (with_reducible refine Below.trans ?_ (Below.mono (by assumption) ?_)) | (simp; done) | (simp; omega) | omega | with_reducible apply le_size_alloc | with_reducible apply le_size_drewN | with_reducible apply le_size_drew | with_reducible apply le_size_setCell | refine Nat.le_trans ?_ (Below.size (by assumption))))⟩
          · have eb : (x.2.2 == y.2.2) = false := by simpa using e
            rw [e0] at hc
            rw [e1] at hc1
            go_wp2
            go_quiet (fail)
            go_wp2
            go_ret
            exact ⟨ret_bool HD.out.symm, (by repeat' (first | with_reducible exact Below.refl _ _ | with_reducible assumption | with_reducible apply Below.drew | with_reducible apply below_drewN | with_reducible apply Below.alloc | with_reducible apply Below.setCell | (with_reducible refine Below.trans ?_ (Below.mono (by assumption) ?_)) | (simp; done) | (simp; omega) | omega | with_reducible apply le_size_alloc | with_reducible apply le_size_drewN | with_reducible apply le_size_drew | with_reducible apply le_size_setCell | refine Nat.le_trans ?_ (Below.size (by assumption))))⟩
      · have HD : Hid (decide (l = k) = true) := by
          show _ = _
          refine decide_eq_true (List.ext_getElem? fun m => ?_)
          rcases (by omega : m < j ∨ j ≤ m) with h | h
          · exact HK.out m h
          · rw [List.getElem?_eq_none (by omega), List.getElem?_eq_none (by omega)]
        go_wp2
        go_ret
        exact ⟨ret_bool HD.out.symm, (by repeat' (first | with_reducible exact Below.refl _ _ | with_reducible assumption | with_reducible apply Below.drew | with_reducible apply below_drewN | with_reducible apply Below.alloc | with_reducible apply Below.setCell | (with_reducible refine Below.trans ?_ (Below.mono (by assumption) ?_)) | (simp; done) | (simp; omega) | omega | with_reducible apply le_size_alloc | with_reducible apply le_size_drewN | with_reducible apply le_size_drew | with_reducible apply le_size_setCell | refine Nat.le_trans ?_ (Below.size (by assumption))))⟩
  · have hl' : ((l.length : Int) != k.length) = true := by simp; omega
    have HD : Hid (decide (l = k) = false) := by
      show _ = _
      exact decide_eq_false (fun h => hl (by rw [h]))
    clear hl
    go_enter Try.func22, Try.ntmps22
    go_wp2
    go_ret
    exact ⟨ret_bool HD.out.symm, (by repeat' (first | with_reducible exact Below.refl _ _ | with_reducible assumption | with_reducible apply Below.drew | with_reducible apply below_drewN | with_reducible apply Below.alloc | with_reducible apply Below.setCell | (with_reducible refine Below.trans ?_ (Below.mono (by assumption) ?_)) | (simp; done) | (simp; omega) | omega | with_reducible apply le_size_alloc | with_reducible apply le_size_drewN | with_reducible apply le_size_drew | with_reducible apply le_size_setCell | refine Nat.le_trans ?_ (Below.size (by assumption))))⟩

set_option maxRecDepth 100000 in
set_option maxHeartbeats 1000000 in
theorem places_any (A B : Option Addr) (c d : Nat) (l k : List (Int × Int)) (w : World) (ha : SR plE w A l) (hb : SR plE w B k) (la : l.length ≤ 1000) (lb : k.length ≤ 1000) :
    Calls Try.prog 20 #[.slice A l.length c, .slice B k.length d] w fun e w' => e = .returned (.bool (decide (l = k))) ∧ Below w.heap.size w w' := by
  have HA := Lib.hid ha; have HB := Lib.hid hb
  clear ha hb
  by_cases hl : l.length = k.length
  · have hl' : ((l.length : Int) != k.length) = false := by simp [hl]
    have HL := Lib.hid hl
    have h1 : l.length ≤ k.length := by omega
    have h2 : k.length ≤ l.length := by omega
    clear hl
    go_enter Try.func20, Try.ntmps20
    go_wp2
    go_loopw [5] (fun i wr => ∃ j : Nat, j ≤ l.length ∧ i = .int .i64 j ∧ Hid (∀ m : Nat, m < j → l[m]? = k[m]?) ∧ Below w.heap.size w wr) (fun i _ => l.length - (intOf i).toNat)
    case atStart => exact ⟨0, by omega, rfl, fun m hm => absurd hm (by omega), Below.refl _ _⟩
    case round =>
      obtain ⟨j, hj, rfl, HK, hbw⟩ := hrel
      by_cases hlt : j < l.length
      · obtain ⟨b, off, x, rfl, hbl, hx, hc, hc1⟩ := pl_at (HA.out.ext hbw) hlt
        obtain ⟨b', off', y, rfl, hbl', hy, hd, hd1⟩ := pl_at (HB.out.ext hbw) (show j < k.length by omega)
        have hlt' : j < k.length := by omega
        have i1 : (j : Int) < l.length := by omega
        have i2 : (j : Int) < k.length := by omega
        have HX := Lib.hid hx; have HY := Lib.hid hy
        clear hx hy
        by_cases e : x = y
        · subst e
          have heq := fun W => eq_pl W x x
          rw [decide_eq_true rfl] at heq
          go_wp2
          go_quiet (fail)
          go_wp2
          go_roundw
          case rel =>
            refine ⟨j + 1, by omega, by go_num, fun m hm => ?_, (by repeat' (first | with_reducible exact Below.refl _ _ | with_reducible assumption | with_reducible apply Below.drew | with_reducible apply below_drewN | with_reducible apply Below.alloc | with_reducible apply Below.setCell | (with_reducible refine Below.trans ?_ (Below.mono (by assumption) ?_)) | (simp; done) | (simp; omega) | omega | with_reducible apply le_size_alloc | with_reducible apply le_size_drewN | with_reducible apply le_size_drew | with_reducible apply le_size_setCell | refine Nat.le_trans ?_ (Below.size (by assumption))))⟩
            rcases (by omega : m < j ∨ m = j) with h | rfl
            · exact HK.out m h
            · exact HX.out.trans HY.out.symm
          case measure => simp [intOf]; omega
        · have HD : Hid (decide (l = k) = false) := by
            show _ = _
            refine decide_eq_false (fun h => e ?_)
            subst h
            have := HX.out.symm.trans HY.out
            injection this
          have e' : x.1 ≠ y.1 ∨ (x.1 = y.1 ∧ x.2 ≠ y.2) := by
            by_cases e1 : x.1 = y.1
            · exact .inr ⟨e1, fun e3 => e (Prod.ext e1 e3)⟩
            · exact .inl e1
          clear e
          rcases e' with e | ⟨e0, e⟩
          · have eb : (x.1 == y.1) = false := by simpa using e
            go_wp2
            go_quiet (fail)
            go_wp2
            go_ret
            exact ⟨ret_bool HD.out.symm, (by repeat' (first | with_reducible exact Below.refl _ _ | with_reducible assumption | with_reducible apply Below.drew | with_reducible apply below_drewN | with_reducible apply Below.alloc | with_reducible apply Below.setCell | (with_reducible refine Below.trans ?_ (Below.mono (by assumption) ?_)) | (simp; done) | (simp; omega) | omega | with_reducible apply le_size_alloc | with_reducible apply le_size_drewN | with_reducible apply le_size_drew | with_reducible apply le_size_setCell | refine Nat.le_trans ?_ (Below.size (by assumption))))⟩
          · have eb : (x.2 == y.2) = false := by simpa using e
            rw [e0] at hc
            go_wp2
            go_quiet (fail)
            go_wp2
            go_ret
            exact ⟨ret_bool HD.out.symm, (by repeat' (first | with_reducible exact Below.refl _ _ | with_reducible assumption | with_reducible apply Below.drew | with_reducible apply below_drewN | with_reducible apply Below.alloc | with_reducible apply Below.setCell | (with_reducible refine Below.trans ?_ (Below.mono (by assumption) ?_)) | (simp; done) | (simp; omega) | omega | with_reducible apply le_size_alloc | with_reducible apply le_size_drewN | with_reducible apply le_size_drew | with_reducible apply le_size_setCell | refine Nat.le_trans ?_ (Below.size (by assumption))))⟩
      · have HD : Hid (decide (l = k) = true) := by
          show _ = _
          refine decide_eq_true (List.ext_getElem? fun m => ?_)
          rcases (by omega : m < j ∨ j ≤ m) with h | h
          · exact HK.out m h
          · rw [List.getElem?_eq_none (by omega), List.getElem?_eq_none (by omega)]
        go_wp2
        go_ret
        exact ⟨ret_bool HD.out.symm, (by repeat' (first | with_reducible exact Below.refl _ _ | with_reducible assumption | with_reducible apply Below.drew | with_reducible apply below_drewN | with_reducible apply Below.alloc | with_reducible apply Below.setCell | (with_reducible refine Below.trans ?_ (Below.mono (by assumption) ?_)) | (simp; done) | (simp; omega) | omega | with_reducible apply le_size_alloc | with_reducible apply le_size_drewN | with_reducible apply le_size_drew | with_reducible apply le_size_setCell | refine Nat.le_trans ?_ (Below.size (by assumption))))⟩
  · have hl' : ((l.length : Int) != k.length) = true := by simp; omega
    have HD : Hid (decide (l = k) = false) := by
      show _ = _
      exact decide_eq_false (fun h => hl (by rw [h]))
    clear hl
    go_enter Try.func20, Try.ntmps20
    go_wp2
    go_ret
    exact ⟨ret_bool HD.out.symm, (by repeat' (first | with_reducible exact Below.refl _ _ | with_reducible assumption | with_reducible apply Below.drew | with_reducible apply below_drewN | with_reducible apply Below.alloc | with_reducible apply Below.setCell | (with_reducible refine Below.trans ?_ (Below.mono (by assumption) ?_)) | (simp; done) | (simp; omega) | omega | with_reducible apply le_size_alloc | with_reducible apply le_size_drewN | with_reducible apply le_size_drew | with_reducible apply le_size_setCell | refine Nat.le_trans ?_ (Below.size (by assumption))))⟩

set_option maxRecDepth 100000 in
set_option maxHeartbeats 1000000 in
theorem OwnMaps_any (A : Option Addr) (c : Nat) (l : List M3) (w : World) (ha : SR mapE w A l) (la : l.length ≤ 1000) :
    Calls Try.prog 11 #[.slice A l.length c] w (RowPost mapE l w) := by
  have HA := Lib.hid ha
  clear ha
  go_enter Try.func11, Try.ntmps11
  go_wp2_with (at_builtin; refine wpList_appR mapE rfl (.tmp 3) (.tmp 4) _ rfl rfl _ w.heap.size (by simp) (some ⟨w.heap.size, 0, none⟩) 0 0 [] rfl (.inl ⟨rfl, SR.nil⟩) A c l.length l rfl (HA.out.ext (by repeat' (first | with_reducible exact Below.refl _ _ | with_reducible assumption | with_reducible apply Below.drew | with_reducible apply below_drewN | with_reducible apply Below.alloc | with_reducible apply Below.setCell | (with_reducible refine Below.trans ?_ (Below.mono (by assumption) ?_)) | (simp; done) | (simp; omega) | omega | with_reducible apply le_size_alloc | with_reducible apply le_size_drewN | with_reducible apply le_size_drew | with_reducible apply le_size_setCell | refine Nat.le_trans ?_ (Below.size (by assumption))))) (by simp; omega) rfl rfl ?_; intro A' c' w1 hc1 hb1 _)
  go_ret
  exact ⟨A', c', rfl, hc1.cr, (by repeat' (first | with_reducible exact Below.refl _ _ | with_reducible assumption | with_reducible apply Below.drew | with_reducible apply below_drewN | with_reducible apply Below.alloc | with_reducible apply Below.setCell | (with_reducible refine Below.trans ?_ (Below.mono (by assumption) ?_)) | (simp; done) | (simp; omega) | omega | with_reducible apply le_size_alloc | with_reducible apply le_size_drewN | with_reducible apply le_size_drew | with_reducible apply le_size_setCell | refine Nat.le_trans ?_ (Below.size (by assumption))))⟩
end Go.Proofs.Ytbeddhamnefpiaa
