/- Contracts of package scan: sets of frames. Written by gen_sca.py. -/
import Derived.Test.YtiobbdfkimpfbaaFree2
import Derived.Laws.Bits64b
namespace Go.Proofs.Ytiobbdfkimpfbaa
open Go.RowKit Go.Maps

/-- A word of the set. -/
def wrd (q : Nat) : List Int → Nat
  | [] => 0
  | f :: t => if f.toNat / 64 = q then wrd q t ||| 2 ^ (f.toNat % 64) else wrd q t
theorem wrd_lt (q : Nat) (mv : List Int) : wrd q mv < 18446744073709551616 := by
  induction mv with
  | nil => simp [wrd]
  | cons f t ih =>
    unfold wrd
    split
    · exact Nat.or_lt_two_pow (n := 64) ih (Nat.pow_lt_pow_right (a := 2) (n := 64) (by decide) (by omega))
    · exact ih
theorem wrd_bit (q r : Nat) (hr : r < 64) (mv : List Int) : (wrd q mv).testBit r = mv.any fun f => f.toNat == 64 * q + r := by
  induction mv with
  | nil => simp [wrd]
  | cons f t ih =>
    unfold wrd
    rw [List.any_cons]
    split
    · rename_i h
      rw [Nat.testBit_or, ih, Nat.testBit_two_pow, Bool.or_comm]
      congr 1
      rw [Bool.eq_iff_iff]
      simp
      omega
    · rename_i h
      rw [ih, show (f.toNat == 64 * q + r) = false by simp; omega, Bool.false_or]
theorem wrd_has {q r : Nat} (hr : r < 64) {mv : List Int} (hm : ∀ f ∈ mv, 0 ≤ f) : (wrd q mv).testBit r = decide (((64 * q + r : Nat) : Int) ∈ mv) := by
  rw [wrd_bit q r hr, Bool.eq_iff_iff, List.any_eq_true, decide_eq_true_iff]
  constructor
  · rintro ⟨f, h1, h2⟩
    have := hm f h1
    rw [show ((64 * q + r : Nat) : Int) = f by have := (beq_iff_eq.1 h2); omega]
    exact h1
  · intro h
    exact ⟨_, h, by rw [Int.toNat_natCast]; simp⟩
theorem wrd_zero {mv : List Int} (hm : ∀ f ∈ mv, 0 ≤ f ∧ f < 256) (h0 : wrd 0 mv = 0) (h1 : wrd 1 mv = 0) (h2 : wrd 2 mv = 0) (h3 : wrd 3 mv = 0) : mv = [] := by
  cases mv with
  | nil => rfl
  | cons f t =>
    exfalso
    have hf := hm f (by simp)
    have key : ∀ q, f.toNat / 64 = q → wrd q (f :: t) ≠ 0 := fun q hq he => by
      have := wrd_bit q (f.toNat % 64) (by omega) (f :: t)
      rw [he] at this
      simp at this
      omega
    rcases (by omega : f.toNat / 64 = 0 ∨ f.toNat / 64 = 1 ∨ f.toNat / 64 = 2 ∨ f.toNat / 64 = 3) with h | h | h | h
    · exact key 0 h h0
    · exact key 1 h h1
    · exact key 2 h h2
    · exact key 3 h h3

theorem and_one (m r : Nat) : (m / 2 ^ r &&& 1 == 1) = m.testBit r := by
  rw [Nat.testBit, Nat.shiftRight_eq_div_pow, Nat.and_comm]
  rcases Nat.mod_two_eq_zero_or_one (m / 2 ^ r) with h | h
  · simp [Nat.one_and_eq_mod_two, h]
  · simp [Nat.one_and_eq_mod_two, h]

set_option maxRecDepth 100000 in
set_option maxHeartbeats 4000000 in
theorem has_any (b off q r m : Nat) (w : World) (hq : q < 4) (hr : r < 64) (hc : w.cell? ⟨b, off + q, none⟩ = some (.int .u64 m)) (hm : m < 18446744073709551616) :
    Calls Try.prog 57 #[.pointer (some ⟨b, off, none⟩), .int .i64 (64 * q + r)] w fun e w' => e = .returned (.bool (m.testBit r)) ∧ w = w' := by
  have e1 : ((64 * q + r : Int)).tdiv 64 = q := by rw [Int.tdiv_eq_ediv_of_nonneg (by omega)]; omega
  have e2 : ((64 * q + r : Int)).tmod 64 = r := by rw [Int.tmod_eq_emod_of_nonneg (by omega)]; omega
  have hq4 : (q : Int) < 4 := by omega
  go_enter Try.func57, Try.ntmps57
  go_wp2_with fail
  go_ret
  refine ⟨ret_bool ?_, rfl⟩
  rw [show (m : Int) / 2 ^ r = ((m / 2 ^ r : Nat) : Int) by simp, show (1 : Int) = ((1 : Nat) : Int) from rfl, bits_and_u64_nat _ _ (Nat.lt_of_le_of_lt (Nat.div_le_self _ _) hm) (by decide), ← and_one]
  rw [Bool.eq_iff_iff]
  simp only [beq_iff_eq]
  omega

set_option maxRecDepth 100000 in
set_option maxHeartbeats 4000000 in
theorem add_any (b off q r m : Nat) (w : World) (hq : q < 4) (hr : r < 64) (hlt : b < w.heap.size) (hf : w.frozen? ⟨b, off + q, none⟩ = false) (hc : w.cell? ⟨b, off + q, none⟩ = some (.int .u64 m)) (hm : m < 18446744073709551616) :
    Calls Try.prog 99 #[.pointer (some ⟨b, off, none⟩), .int .i64 (64 * q + r)] w fun e w' => e = .returned (.tuple #[]) ∧ ∃ W, Below w.heap.size w W ∧ w' = W.setCell ⟨b, off + q, none⟩ (.int .u64 ((m ||| 2 ^ r : Nat) : Int)) := by
  have e1 : ((64 * q + r : Int)).tdiv 64 = q := by rw [Int.tdiv_eq_ediv_of_nonneg (by omega)]; omega
  have e2 : ((64 * q + r : Int)).tmod 64 = r := by rw [Int.tmod_eq_emod_of_nonneg (by omega)]; omega
  have hq4 : (q : Int) < 4 := by omega
  have hq0 : (0 : Int) ≤ q := by omega
  have hw1 : IntKind.i64.wrap (q : Int) = q := by rw [IntKind.wrap_i64]; omega
  have hw2 : IntKind.i64.wrap (r : Int) = r := by rw [IntKind.wrap_i64]; omega
  have hw3 : IntKind.u64.wrap (r : Int) = r := by rw [IntKind.wrap_u64]; omega
  have hw4 : min ((r : Int)).toNat 64 = r := by omega
  have h2l : 2 ^ r < 18446744073709551616 := Nat.pow_lt_pow_right (a := 2) (n := 64) (by decide) (by omega)
  have h2r : (2 : Int) ^ r = ((2 ^ r : Nat) : Int) := by simp
  have hw5 : IntKind.u64.wrap ((2 : Int) ^ r) = (2 : Int) ^ r := by rw [h2r, IntKind.wrap_u64]; generalize (2 : Nat) ^ r = p at h2l; omega
  have hbo : bits BinOp.or IntKind.u64 (m : Int) ((2 : Int) ^ r) = ((m ||| 2 ^ r : Nat) : Int) := by rw [h2r]; exact bits_or_u64_nat _ _ hm h2l
  clear h2r
  go_enter Try.func99, Try.ntmps99
  refine wp_region_chain2 [0, 0, 0, 0, 0, 1, 0, 0, 0, 0, 0, 0, 0, 3] [[], [], [], [], [], [], [], [], [], [], [], [], [], []] [.is ?fan0, .is ?fan1, .is ?fan2, .is ?fan3, .is ?fan4, .kn ?fan5, .is ?fan6, .is ?fan7, .is ?fan8, .is (.int .u64 ((2 : Int) ^ r)), .is (.int .u64 ((m ||| 2 ^ r : Nat) : Int)), .is ?fan11, .is ?fan12, .late] (by rfl) (by rfl) (by kernel_rfl) (by kernel_rfl) (by kernel_rfl) (by kernel_rfl) (by kernel_rfl) (by kernel_rfl) (lts_is (lts_is (lts_is (lts_is (lts_is (lts_kn (lts_is (lts_is (lts_is (lts_is (lts_is (lts_is (lts_is (lts_late lts_nil)))))))))))))) (fun W0 hb0 hz0 => ?_)
  rotate_left 11
  rw [show lateIdx [0, 0, 0, 0, 0, 1, 0, 0, 0, 0, 0, 0, 0, 3] = [13] from by rfl]
  have p0 := cell_keep hb0 hc hlt
  have zW : b < W0.heap.size := Nat.lt_of_lt_of_le hlt hb0.size
  have g0 := frozen_keep hb0 hf hlt
  refine chn_is (stp_pure (by rfl) ?yan0) ?ran0
  case yan0 =>
    intro w
    go_simp
    first | done | with_reducible rfl
  (try simp only [Act.put, List.setIfInBounds_toArray, List.set_cons_zero, List.set_cons_succ, List.nil_append, List.cons_append, Nat.reduceAdd])
  refine chn_is (stp_pure (by rfl) ?yan1) ?ran1
  case yan1 =>
    intro w
    go_simp
    first | done | with_reducible rfl
  (try simp only [Act.put, List.setIfInBounds_toArray, List.set_cons_zero, List.set_cons_succ, List.nil_append, List.cons_append, Nat.reduceAdd])
  refine chn_is (stp_pure (by rfl) ?yan2) ?ran2
  case yan2 =>
    intro w
    go_simp
    first | done | with_reducible rfl
  (try simp only [Act.put, List.setIfInBounds_toArray, List.set_cons_zero, List.set_cons_succ, List.nil_append, List.cons_append, Nat.reduceAdd])
  refine chn_is (stp_pure (by rfl) ?yan3) ?ran3
  case yan3 =>
    intro w
    go_simp
    first | done | with_reducible rfl
  (try simp only [Act.put, List.setIfInBounds_toArray, List.set_cons_zero, List.set_cons_succ, List.nil_append, List.cons_append, Nat.reduceAdd])
  refine chn_is (stp_pure (by rfl) ?yan4) ?ran4
  case yan4 =>
    intro w
    go_simp
    first | done | with_reducible rfl
  (try simp only [Act.put, List.setIfInBounds_toArray, List.set_cons_zero, List.set_cons_succ, List.nil_append, List.cons_append, Nat.reduceAdd])
  refine chn_kn (stp_take (by rfl) ?yan5) ?ran5
  case yan5 =>
    intro w hbw hd
    have r0 := cell_keep hbw p0 zW
    clear hd
    go_simp
    first | done | with_reducible rfl
  (try simp only [Act.put, List.setIfInBounds_toArray, List.set_cons_zero, List.set_cons_succ, List.nil_append, List.cons_append, Nat.reduceAdd])
  refine chn_is (stp_pure (by rfl) ?yan6) ?ran6
  case yan6 =>
    intro w
    go_simp
    first | done | with_reducible rfl
  (try simp only [Act.put, List.setIfInBounds_toArray, List.set_cons_zero, List.set_cons_succ, List.nil_append, List.cons_append, Nat.reduceAdd])
  refine chn_is (stp_pure (by rfl) ?yan7) ?ran7
  case yan7 =>
    intro w
    go_simp
    first | done | with_reducible rfl
  (try simp only [Act.put, List.setIfInBounds_toArray, List.set_cons_zero, List.set_cons_succ, List.nil_append, List.cons_append, Nat.reduceAdd])
  refine chn_is (stp_pure (by rfl) ?yan8) ?ran8
  case yan8 =>
    intro w
    go_simp
    first | done | with_reducible rfl
  (try simp only [Act.put, List.setIfInBounds_toArray, List.set_cons_zero, List.set_cons_succ, List.nil_append, List.cons_append, Nat.reduceAdd])
  refine chn_is (stp_pure (by rfl) ?yan9) ?ran9
  case yan9 =>
    intro w
    go_simp
    first | done | rfl
  (try simp only [Act.put, List.setIfInBounds_toArray, List.set_cons_zero, List.set_cons_succ, List.nil_append, List.cons_append, Nat.reduceAdd])
  refine chn_is (stp_pure (by rfl) ?yan10) ?ran10
  case yan10 =>
    intro w
    go_simp
    first | done | rfl
  (try simp only [Act.put, List.setIfInBounds_toArray, List.set_cons_zero, List.set_cons_succ, List.nil_append, List.cons_append, Nat.reduceAdd])
  refine chn_is (stp_pure (by rfl) ?yan11) ?ran11
  case yan11 =>
    intro w
    go_simp
    first | done | with_reducible rfl
  (try simp only [Act.put, List.setIfInBounds_toArray, List.set_cons_zero, List.set_cons_succ, List.nil_append, List.cons_append, Nat.reduceAdd])
  refine chn_is (stp_pure (by rfl) ?yan12) ?ran12
  case yan12 =>
    intro w
    go_simp
    first | done | with_reducible rfl
  (try simp only [Act.put, List.setIfInBounds_toArray, List.set_cons_zero, List.set_cons_succ, List.nil_append, List.cons_append, Nat.reduceAdd])
  refine chn_late ?ran13
  (try simp only [Act.put, List.setIfInBounds_toArray, List.set_cons_zero, List.set_cons_succ, List.nil_append, List.cons_append, Nat.reduceAdd])
  refine chn_end (fun wz lo hi hbz hd hR => ?_)
  have q0 := cell_keep hbz p0 zW
  have qf := frozen_keep hbz g0 zW
  have hbb := hb0.trans (hbz.mono hb0.size)
  clear hd hR p0 g0
  refine late_one (by simp only [List.getElem?_toArray, List.getElem?_cons_succ, List.getElem?_cons_zero]; rfl) (fun K Q' hK => ?_)
  go_simp
  refine hK.out _ ?_
  clear hK K Q'
  go_end0
  exact ⟨rfl, _, hbb, rfl⟩
end Go.Proofs.Ytiobbdfkimpfbaa
