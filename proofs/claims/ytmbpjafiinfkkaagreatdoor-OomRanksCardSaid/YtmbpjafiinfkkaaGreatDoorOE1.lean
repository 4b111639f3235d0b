/- Package entry: the layout in memory, fields of a word, flags, Check. -/
import Derived.Test.YtmbpjafiinfkkaaGreatDoorMem
import Derived.Laws.Bits64b
namespace Go.Proofs.YtmbpjafiinfkkaaGreatDoor
set_option linter.unusedSimpArgs false
set_option linter.unusedVariables false
open Go.RowKit Go.Maps

def layL : List Int := [0, 3, 2, 7, 8, 255]
/-- The package's layout lies in block 0. -/
def AL (w : World) : Prop := 0 < w.heap.size ∧ ∀ (i : Nat) (x : Int), layL[i]? = some x → w.cell? ⟨0, i, none⟩ = some (.int .u64 x)
theorem AL.below {B : Nat} {w w' : World} (h : AL w) (hb : Below B w w') (hB : 0 < B) : AL w' := ⟨Nat.lt_of_lt_of_le h.1 hb.size, fun i x hx => (hb.cell (p := ⟨0, i, none⟩) hB).trans (h.2 i x hx)⟩
theorem AL.ext {w w' : World} (h : AL w) (hb : Below w.heap.size w w') : AL w' := h.below hb h.1
theorem AL.drew {w : World} (h : AL w) : AL w.drew := h

/-- The number of an entry's value. -/
def entV (k n : Int) (a b c : Bool) : Value := .agg #[.int .i64 k, .int .i64 n, .bool a, .bool b, .bool c]
def fieldN (x : Nat) : Nat → Nat
  | 0 => x % 4
  | 1 => x / 4 % 8
  | _ => x / 256 % 256

theorem and3 (x : Nat) : x &&& 3 = x % 4 := Nat.and_two_pow_sub_one_eq_mod x 2
theorem and7 (x : Nat) : x &&& 7 = x % 8 := Nat.and_two_pow_sub_one_eq_mod x 3
theorem and255 (x : Nat) : x &&& 255 = x % 256 := Nat.and_two_pow_sub_one_eq_mod x 8


theorem AL.drewN {w : World} (h : AL w) (n : Nat) : AL (w.drewN n) := h

set_option maxRecDepth 100000 in
set_option maxHeartbeats 2000000 in
theorem part0 (x : Nat) (w : World) (hal : AL w) (hx : x < 18446744073709551616) :
    Calls Tryz.prog 63 #[.int .u64 x, .int .i64 0] w fun e w' => e = .returned (.int .u64 (x % 4 : Nat)) ∧ Below w.heap.size w w' := by
  have h0 := hal.1
  have c0 : w.cell? ⟨0, 0, none⟩ = some (.int .u64 0) := hal.2 0 _ rfl
  have c1 : w.cell? ⟨0, 1, none⟩ = some (.int .u64 3) := hal.2 1 _ rfl
  have c2 : w.cell? ⟨0, 2, none⟩ = some (.int .u64 2) := hal.2 2 _ rfl
  have c3 : w.cell? ⟨0, 3, none⟩ = some (.int .u64 7) := hal.2 3 _ rfl
  have c4 : w.cell? ⟨0, 4, none⟩ = some (.int .u64 8) := hal.2 4 _ rfl
  have c5 : w.cell? ⟨0, 5, none⟩ = some (.int .u64 255) := hal.2 5 _ rfl
  have hb : bits .and .u64 ((x : Int)) 3 = ((x % 4 : Nat) : Int) := by
    skip
    skip
    rw [show (3 : Int) = ((3 : Nat) : Int) from rfl, bits_and_u64_nat _ _ (by omega) (by decide), and3]
  have HB := Lib.hid hb
  clear hb
  go_enter Tryz.func63, Tryz.ntmps63
  go_wp2
  go_quiet (fail)
  go_wp2
  rw [HB.out]
  refine bodyPost_ret (v := .int .u64 (x % 4 : Nat)) (by simp [results, Tryz.results63, go_sem]) rfl ?_
  exact ⟨rfl, (by repeat' (first | with_reducible exact Below.refl _ _ | with_reducible assumption | with_reducible apply Below.drew | with_reducible apply below_drewN | with_reducible apply Below.alloc | with_reducible apply Below.setCell | (with_reducible refine Below.trans ?_ (Below.mono (by assumption) ?_)) | (simp; done) | (simp; omega) | omega | with_reducible apply le_size_alloc | with_reducible apply le_size_drewN | with_reducible apply le_size_drew | with_reducible apply le_size_setCell | refine Nat.le_trans ?_ (Below.size (by assumption))))⟩

set_option maxRecDepth 100000 in
set_option maxHeartbeats 2000000 in
theorem part1 (x : Nat) (w : World) (hal : AL w) (hx : x < 18446744073709551616) :
    Calls Tryz.prog 63 #[.int .u64 x, .int .i64 1] w fun e w' => e = .returned (.int .u64 (x / 4 % 8 : Nat)) ∧ Below w.heap.size w w' := by
  have h0 := hal.1
  have c0 : w.cell? ⟨0, 0, none⟩ = some (.int .u64 0) := hal.2 0 _ rfl
  have c1 : w.cell? ⟨0, 1, none⟩ = some (.int .u64 3) := hal.2 1 _ rfl
  have c2 : w.cell? ⟨0, 2, none⟩ = some (.int .u64 2) := hal.2 2 _ rfl
  have c3 : w.cell? ⟨0, 3, none⟩ = some (.int .u64 7) := hal.2 3 _ rfl
  have c4 : w.cell? ⟨0, 4, none⟩ = some (.int .u64 8) := hal.2 4 _ rfl
  have c5 : w.cell? ⟨0, 5, none⟩ = some (.int .u64 255) := hal.2 5 _ rfl
  have hb : bits .and .u64 (((x : Int) / 4)) 7 = ((x / 4 % 8 : Nat) : Int) := by
    have e : ((x : Int) / 4) = ((x / 4 : Nat) : Int) := by simp
    rw [e]
    rw [show (7 : Int) = ((7 : Nat) : Int) from rfl, bits_and_u64_nat _ _ (by omega) (by decide), and7]
  have HB := Lib.hid hb
  clear hb
  go_enter Tryz.func63, Tryz.ntmps63
  go_wp2
  go_quiet (fail)
  go_wp2
  rw [HB.out]
  refine bodyPost_ret (v := .int .u64 (x / 4 % 8 : Nat)) (by simp [results, Tryz.results63, go_sem]) rfl ?_
  exact ⟨rfl, (by repeat' (first | with_reducible exact Below.refl _ _ | with_reducible assumption | with_reducible apply Below.drew | with_reducible apply below_drewN | with_reducible apply Below.alloc | with_reducible apply Below.setCell | (with_reducible refine Below.trans ?_ (Below.mono (by assumption) ?_)) | (simp; done) | (simp; omega) | omega | with_reducible apply le_size_alloc | with_reducible apply le_size_drewN | with_reducible apply le_size_drew | with_reducible apply le_size_setCell | refine Nat.le_trans ?_ (Below.size (by assumption))))⟩

set_option maxRecDepth 100000 in
set_option maxHeartbeats 2000000 in
theorem part2 (x : Nat) (w : World) (hal : AL w) (hx : x < 18446744073709551616) :
    Calls Tryz.prog 63 #[.int .u64 x, .int .i64 2] w fun e w' => e = .returned (.int .u64 (x / 256 % 256 : Nat)) ∧ Below w.heap.size w w' := by
  have h0 := hal.1
  have c0 : w.cell? ⟨0, 0, none⟩ = some (.int .u64 0) := hal.2 0 _ rfl
  have c1 : w.cell? ⟨0, 1, none⟩ = some (.int .u64 3) := hal.2 1 _ rfl
  have c2 : w.cell? ⟨0, 2, none⟩ = some (.int .u64 2) := hal.2 2 _ rfl
  have c3 : w.cell? ⟨0, 3, none⟩ = some (.int .u64 7) := hal.2 3 _ rfl
  have c4 : w.cell? ⟨0, 4, none⟩ = some (.int .u64 8) := hal.2 4 _ rfl
  have c5 : w.cell? ⟨0, 5, none⟩ = some (.int .u64 255) := hal.2 5 _ rfl
  have hb : bits .and .u64 (((x : Int) / 256)) 255 = ((x / 256 % 256 : Nat) : Int) := by
    have e : ((x : Int) / 256) = ((x / 256 : Nat) : Int) := by simp
    rw [e]
    rw [show (255 : Int) = ((255 : Nat) : Int) from rfl, bits_and_u64_nat _ _ (by omega) (by decide), and255]
  have HB := Lib.hid hb
  clear hb
  go_enter Tryz.func63, Tryz.ntmps63
  go_wp2
  go_quiet (fail)
  go_wp2
  rw [HB.out]
  refine bodyPost_ret (v := .int .u64 (x / 256 % 256 : Nat)) (by simp [results, Tryz.results63, go_sem]) rfl ?_
  exact ⟨rfl, (by repeat' (first | with_reducible exact Below.refl _ _ | with_reducible assumption | with_reducible apply Below.drew | with_reducible apply below_drewN | with_reducible apply Below.alloc | with_reducible apply Below.setCell | (with_reducible refine Below.trans ?_ (Below.mono (by assumption) ?_)) | (simp; done) | (simp; omega) | omega | with_reducible apply le_size_alloc | with_reducible apply le_size_drewN | with_reducible apply le_size_drew | with_reducible apply le_size_setCell | refine Nat.le_trans ?_ (Below.size (by assumption))))⟩

/-- The word of three numbers. -/
theorem or3 (a b c : Nat) (ha : a < 4) (hb : b < 8) (hc : c < 256) : ((0 ||| a) ||| b * 4) ||| c * 256 = a + 4 * b + 256 * c := by
  have e1 : a ||| b * 4 = b * 4 + a := by
    have := Nat.shiftLeft_add_eq_or_of_lt (i := 2) (b := a) (by omega) b
    rw [Nat.shiftLeft_eq] at this
    rw [Nat.or_comm, ← this]
  have e2 : (b * 4 + a) ||| c * 256 = c * 256 + (b * 4 + a) := by
    have := Nat.shiftLeft_add_eq_or_of_lt (i := 8) (b := b * 4 + a) (by omega) c
    rw [Nat.shiftLeft_eq] at this
    rw [Nat.or_comm, ← this]
  rw [Nat.zero_or, e1, e2]
  omega

set_option maxRecDepth 100000 in
set_option maxHeartbeats 8000000 in
theorem word_any (a b c : Nat) (A : Option Addr) (cp : Nat) (w : World) (hal : AL w) (ha : a < 4) (hb : b < 8) (hc : c < 256) (hs : Sl w (fun n : Nat => .int .u64 (n : Int)) A [a, b, c]) :
    Calls Tryz.prog 62 #[.slice A 3 cp] w fun e w' => e = .returned (.int .u64 (a + 4 * b + 256 * c : Nat)) ∧ Below w.heap.size w w' := by
  have h0 := hal.1
  have c0 : w.cell? ⟨0, 0, none⟩ = some (.int .u64 0) := hal.2 0 _ rfl
  have c1 : w.cell? ⟨0, 1, none⟩ = some (.int .u64 3) := hal.2 1 _ rfl
  have c2 : w.cell? ⟨0, 2, none⟩ = some (.int .u64 2) := hal.2 2 _ rfl
  have c3 : w.cell? ⟨0, 3, none⟩ = some (.int .u64 7) := hal.2 3 _ rfl
  have c4 : w.cell? ⟨0, 4, none⟩ = some (.int .u64 8) := hal.2 4 _ rfl
  have c5 : w.cell? ⟨0, 5, none⟩ = some (.int .u64 255) := hal.2 5 _ rfl
  obtain ⟨bb, off, rfl, hbl, hcl⟩ := hs (by simp)
  have q0 : w.cell? ⟨bb, off, none⟩ = some (.int .u64 a) := hcl 0 _ rfl
  have q1 : w.cell? ⟨bb, off + 1, none⟩ = some (.int .u64 b) := hcl 1 _ rfl
  have q2 : w.cell? ⟨bb, off + 2, none⟩ = some (.int .u64 c) := hcl 2 _ rfl
  clear hcl
  have hv : bits BinOp.or IntKind.u64 (bits BinOp.or IntKind.u64 (bits BinOp.or IntKind.u64 0 (IntKind.u64.wrap (bits BinOp.and IntKind.u64 (a : Int) 3))) (IntKind.u64.wrap (bits BinOp.and IntKind.u64 (b : Int) 7 * 4))) (IntKind.u64.wrap (bits BinOp.and IntKind.u64 (c : Int) 255 * 256)) = ((a + 4 * b + 256 * c : Nat) : Int) := by
    rw [show (3 : Int) = ((3 : Nat) : Int) from rfl, show (7 : Int) = ((7 : Nat) : Int) from rfl, show (255 : Int) = ((255 : Nat) : Int) from rfl, bits_and_u64_nat _ _ (by omega) (by decide), bits_and_u64_nat _ _ (by omega) (by decide), bits_and_u64_nat _ _ (by omega) (by decide), and3, and7, and255,
      show IntKind.u64.wrap ((a % 4 : Nat) : Int) = ((a : Nat) : Int) by rw [IntKind.wrap_u64]; omega, show IntKind.u64.wrap (((b % 8 : Nat) : Int) * 4) = ((b * 4 : Nat) : Int) by rw [IntKind.wrap_u64]; omega, show IntKind.u64.wrap (((c % 256 : Nat) : Int) * 256) = ((c * 256 : Nat) : Int) by rw [IntKind.wrap_u64]; omega,
      show (0 : Int) = ((0 : Nat) : Int) from rfl, bits_or_u64_nat _ _ (by decide) (by omega), Nat.zero_or]
    have e1 : a ||| b * 4 = a + 4 * b := by have := or3 a b 0 ha hb (by decide); simpa using this
    rw [bits_or_u64_nat _ _ (by omega) (by omega), e1, bits_or_u64_nat _ _ (by omega) (by omega), ← or3 a b c ha hb hc, Nat.zero_or, e1]
  have HV := Lib.hid hv
  clear hv
  go_enter Tryz.func62, Tryz.ntmps62
  go_wp2
  refine wp_loop_rounds 4 ?_
  rw [rounds_succ]
  go_wp2
  go_quiet (fail)
  go_wp2
  rw [rounds_succ]
  go_wp2
  go_quiet (fail)
  go_wp2
  rw [rounds_succ]
  go_wp2
  go_quiet (fail)
  go_wp2
  rw [rounds_succ]
  go_wp2
  rw [HV.out]
  refine bodyPost_ret (v := .int .u64 (a + 4 * b + 256 * c : Nat)) (by simp [results, Tryz.results62, go_sem]) rfl ?_
  exact ⟨rfl, (by repeat' (first | with_reducible exact Below.refl _ _ | with_reducible assumption | with_reducible apply Below.drew | with_reducible apply below_drewN | with_reducible apply Below.alloc | with_reducible apply Below.setCell | (with_reducible refine Below.trans ?_ (Below.mono (by assumption) ?_)) | (simp; done) | (simp; omega) | omega | with_reducible apply le_size_alloc | with_reducible apply le_size_drewN | with_reducible apply le_size_drew | with_reducible apply le_size_setCell | refine Nat.le_trans ?_ (Below.size (by assumption))))⟩

set_option maxHeartbeats 2000000 in
theorem Kind_any (x : Nat) (w : World) (hal : AL w) (hx : x < 18446744073709551616) :
    Calls Tryz.prog 61 #[.int .u64 x] w fun e w' => e = .returned (if x % 4 = 3 then .tuple #[.int .i64 0, .int .i64 16] else .tuple #[.int .i64 (x % 4 : Nat), .int .i64 0]) ∧ Below w.heap.size w w' := by
  have H0 := Lib.hid (part0 x)
  by_cases h : x % 4 = 3
  · rw [if_pos h]
    have H := Lib.hid h
    clear h
    go_enter Tryz.func61, Tryz.ntmps61
    go_wp2_with (go_at_call 63; refine (part0 x _ hal hx).mono ?_; rw [H.out]; rintro e w1 ⟨rfl, hb1⟩)
    refine bodyPost_ret (v := .tuple #[.int .i64 0, .int .i64 16]) (by simp [results, Tryz.results61, go_sem]) rfl ?_
    exact ⟨rfl, (by repeat' (first | with_reducible exact Below.refl _ _ | with_reducible assumption | with_reducible apply Below.drew | with_reducible apply below_drewN | with_reducible apply Below.alloc | with_reducible apply Below.setCell | (with_reducible refine Below.trans ?_ (Below.mono (by assumption) ?_)) | (simp; done) | (simp; omega) | omega | with_reducible apply le_size_alloc | with_reducible apply le_size_drewN | with_reducible apply le_size_drew | with_reducible apply le_size_setCell | refine Nat.le_trans ?_ (Below.size (by assumption))))⟩
  · rw [if_neg h]
    obtain ⟨m, hm⟩ : ∃ m, x % 4 = m := ⟨_, rfl⟩
    have h3 : m < 3 := by omega
    have H := Lib.hid hm
    rw [hm]
    clear h hm
    have h4 : (m : Int) ≤ 2 := by omega
    go_enter Tryz.func61, Tryz.ntmps61
    go_wp2_with (go_at_call 63; refine (part0 x _ hal hx).mono ?_; rw [H.out]; rintro e w1 ⟨rfl, hb1⟩)
    refine bodyPost_ret (v := .tuple #[.int .i64 m, .int .i64 0]) (by simp [results, Tryz.results61, go_sem]) rfl ?_
    exact ⟨rfl, (by repeat' (first | with_reducible exact Below.refl _ _ | with_reducible assumption | with_reducible apply Below.drew | with_reducible apply below_drewN | with_reducible apply Below.alloc | with_reducible apply Below.setCell | (with_reducible refine Below.trans ?_ (Below.mono (by assumption) ?_)) | (simp; done) | (simp; omega) | omega | with_reducible apply le_size_alloc | with_reducible apply le_size_drewN | with_reducible apply le_size_drew | with_reducible apply le_size_setCell | refine Nat.le_trans ?_ (Below.size (by assumption))))⟩

theorem has1 (f : Nat) (hf : f < 8) : (!(f &&& 1 == 0)) = decide (f % 2 = 1) ∧ (!(f &&& 2 == 0)) = decide (f / 2 % 2 = 1) ∧ (!(f &&& 4 == 0)) = decide (f / 4 % 2 = 1) := by
  have : f = 0 ∨ f = 1 ∨ f = 2 ∨ f = 3 ∨ f = 4 ∨ f = 5 ∨ f = 6 ∨ f = 7 := by omega
  rcases this with h | h | h | h | h | h | h | h <;> subst h <;> decide
set_option maxHeartbeats 2000000 in
theorem fhas_any (f g : Nat) (w : World) (hf : f < 8) (hg : g < 8) :
    Calls Tryz.prog 64 #[.int .u64 f, .int .u64 g] w fun e w' => e = .returned (.bool (!(f &&& g == 0))) ∧ w = w' := by
  have hb := bits_and_u64_nat f g (by omega) (by omega)
  have HB := Lib.hid hb
  clear hb
  go_enter Tryz.func64, Tryz.ntmps64
  go_wp2
  rw [HB.out]
  go_ret
  refine ⟨ret_bool ?_, rfl⟩
  rw [Bool.eq_iff_iff]
  simp
def wthF (f g : Int) (on : Bool) : Int := bits (if on then .or else .andNot) .u64 f g
set_option maxHeartbeats 2000000 in
theorem with_any (f g : Int) (on : Bool) (w : World) : Calls Tryz.prog 105 #[.int .u64 f, .int .u64 g, .bool on] w fun e w' => e = .returned (.int .u64 (wthF f g on)) ∧ w = w' := by
  cases on
  all_goals
    go_enter Tryz.func105, Tryz.ntmps105
    go_wp2
    go_ret
    exact ⟨rfl, rfl⟩
def flgN (a b c : Bool) : Int := (if a then 1 else 0) + (if b then 2 else 0) + (if c then 4 else 0)
theorem flg_eq (a b c : Bool) : wthF (wthF (wthF 0 1 a) 2 b) 4 c = flgN a b c := by
  cases a <;> cases b <;> cases c <;> decide
set_option maxHeartbeats 2000000 in
theorem flagsOf_any (k n : Int) (a b c : Bool) (w : World) : Calls Tryz.prog 83 #[entV k n a b c] w fun e w' => e = .returned (.int .u64 (flgN a b c)) ∧ Below w.heap.size w w' := by
  have H := Lib.hid (flg_eq a b c)
  unfold entV
  go_enter Tryz.func83, Tryz.ntmps83
  go_wp2
  go_quiet ((go_at_call 105; first | exact quiet_l (with_any _ _ _ _) | exact quiet_l2 (with_any _ _ _ _)))
  go_wp2
  rw [H.out]
  refine bodyPost_ret (v := .int .u64 (flgN a b c)) (by simp [results, Tryz.results83, go_sem]) rfl ?_
  exact ⟨rfl, (by repeat' (first | with_reducible exact Below.refl _ _ | with_reducible assumption | with_reducible apply Below.drew | with_reducible apply below_drewN | with_reducible apply Below.alloc | with_reducible apply Below.setCell | (with_reducible refine Below.trans ?_ (Below.mono (by assumption) ?_)) | (simp; done) | (simp; omega) | omega | with_reducible apply le_size_alloc | with_reducible apply le_size_drewN | with_reducible apply le_size_drew | with_reducible apply le_size_setCell | refine Nat.le_trans ?_ (Below.size (by assumption))))⟩
end Go.Proofs.YtmbpjafiinfkkaaGreatDoor
