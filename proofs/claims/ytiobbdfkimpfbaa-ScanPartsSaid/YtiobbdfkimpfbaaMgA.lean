/- Contracts of package scan: sets of frames. Written by gen_sca.py. -/
/- Contracts of package scan: the steps of a walk. Written by gen_scb.py. -/
/- Contracts of package scan: demote. Written by gen_scb.py. -/
/- Contracts of package scan: promote, find. Written by gen_scb.py. -/
/- Contracts of package scan: a step. -/
/- Contracts of package scan: twin, sound, isTarget, isCount; headgateref30: asked, counted. Written by gen_scf.py. -/
/- headgateref30.own. Written by gen_scf.py out of XRef2.src. -/
/- Contracts of package scan: Step. Written by gen_sch.py. -/
import Derived.Test.YtiobbdfkimpfbaaFree2
import Derived.Laws.Bits64b
import Derived.Test.YtiobbdfkimpfbaaLruU
import Derived.Test.YtiobbdfkimpfbaaRef3
import Derived.Test.YtiobbdfkimpfbaaRange
import Derived.Laws.EntriesVeiled
import Derived.Test.YtiobbdfkimpfbaaRef2
namespace Go.Proofs.Ytiobbdfkimpfbaa
set_option linter.unusedSimpArgs false
set_option linter.unusedVariables false
open Go.RowKit Go.Maps

/-- A word of the set. -/
def wrd (q : Nat) : List Int → Nat
  | [] => 0
  | f :: t => if f.toNat / 64 = q then wrd q t ||| 2 ^ (f.toNat % 64) else wrd q t
theorem wrd_lt (q : Nat) (mv : List Int) : wrd q mv < 18446744073709551616 := by
  induction mv with
  | nil => simp [wrd]
  | cons f t ih =>
    unfold wrd
    split
    · exact Nat.or_lt_two_pow (n := 64) ih (Nat.pow_lt_pow_right (a := 2) (n := 64) (by decide) (by omega))
    · exact ih
theorem wrd_bit (q r : Nat) (hr : r < 64) (mv : List Int) : (wrd q mv).testBit r = mv.any fun f => f.toNat == 64 * q + r := by
  induction mv with
  | nil => simp [wrd]
  | cons f t ih =>
    unfold wrd
    rw [List.any_cons]
    split
    · rename_i h
      rw [Nat.testBit_or, ih, Nat.testBit_two_pow, Bool.or_comm]
      congr 1
      rw [Bool.eq_iff_iff]
      simp
      omega
    · rename_i h
      rw [ih, show (f.toNat == 64 * q + r) = false by simp; omega, Bool.false_or]
theorem wrd_has {q r : Nat} (hr : r < 64) {mv : List Int} (hm : ∀ f ∈ mv, 0 ≤ f) : (wrd q mv).testBit r = decide (((64 * q + r : Nat) : Int) ∈ mv) := by
  rw [wrd_bit q r hr, Bool.eq_iff_iff, List.any_eq_true, decide_eq_true_iff]
  constructor
  · rintro ⟨f, h1, h2⟩
    have := hm f h1
    rw [show ((64 * q + r : Nat) : Int) = f by have := (beq_iff_eq.1 h2); omega]
    exact h1
  · intro h
    exact ⟨_, h, by rw [Int.toNat_natCast]; simp⟩
theorem wrd_zero {mv : List Int} (hm : ∀ f ∈ mv, 0 ≤ f ∧ f < 256) (h0 : wrd 0 mv = 0) (h1 : wrd 1 mv = 0) (h2 : wrd 2 mv = 0) (h3 : wrd 3 mv = 0) : mv = [] := by
  cases mv with
  | nil => rfl
  | cons f t =>
    exfalso
    have hf := hm f (by simp)
    have key : ∀ q, f.toNat / 64 = q → wrd q (f :: t) ≠ 0 := fun q hq he => by
      have := wrd_bit q (f.toNat % 64) (by omega) (f :: t)
      rw [he] at this
      simp at this
      omega
    rcases (by omega : f.toNat / 64 = 0 ∨ f.toNat / 64 = 1 ∨ f.toNat / 64 = 2 ∨ f.toNat / 64 = 3) with h | h | h | h
    · exact key 0 h h0
    · exact key 1 h h1
    · exact key 2 h h2
    · exact key 3 h h3

theorem and_one (m r : Nat) : (m / 2 ^ r &&& 1 == 1) = m.testBit r := by
  rw [Nat.testBit, Nat.shiftRight_eq_div_pow, Nat.and_comm]
  rcases Nat.mod_two_eq_zero_or_one (m / 2 ^ r) with h | h
  · simp [Nat.one_and_eq_mod_two, h]
  · simp [Nat.one_and_eq_mod_two, h]

set_option maxRecDepth 100000 in
set_option maxHeartbeats 4000000 in
theorem has_any (b off q r m : Nat) (w : World) (hq : q < 4) (hr : r < 64) (hc : w.cell? ⟨b, off + q, none⟩ = some (.int .u64 m)) (hm : m < 18446744073709551616) :
    Calls Try.prog 57 #[.pointer (some ⟨b, off, none⟩), .int .i64 (64 * q + r)] w fun e w' => e = .returned (.bool (m.testBit r)) ∧ w = w' := by
  have e1 : ((64 * q + r : Int)).tdiv 64 = q := by rw [Int.tdiv_eq_ediv_of_nonneg (by omega)]; omega
  have e2 : ((64 * q + r : Int)).tmod 64 = r := by rw [Int.tmod_eq_emod_of_nonneg (by omega)]; omega
  have hq4 : (q : Int) < 4 := by omega
  go_enter Try.func57, Try.ntmps57
  go_wp2_with fail
  go_ret
  refine ⟨ret_bool ?_, rfl⟩
  rw [show (m : Int) / 2 ^ r = ((m / 2 ^ r : Nat) : Int) by simp, show (1 : Int) = ((1 : Nat) : Int) from rfl, bits_and_u64_nat _ _ (Nat.lt_of_le_of_lt (Nat.div_le_self _ _) hm) (by decide), ← and_one]
  rw [Bool.eq_iff_iff]
  simp only [beq_iff_eq]
  omega

set_option maxRecDepth 100000 in
set_option maxHeartbeats 4000000 in
theorem add_any (b off q r m : Nat) (w : World) (hq : q < 4) (hr : r < 64) (hlt : b < w.heap.size) (hf : w.frozen? ⟨b, off + q, none⟩ = false) (hc : w.cell? ⟨b, off + q, none⟩ = some (.int .u64 m)) (hm : m < 18446744073709551616) :
    Calls Try.prog 99 #[.pointer (some ⟨b, off, none⟩), .int .i64 (64 * q + r)] w fun e w' => e = .returned (.tuple #[]) ∧ ∃ W, Below w.heap.size w W ∧ w' = W.setCell ⟨b, off + q, none⟩ (.int .u64 ((m ||| 2 ^ r : Nat) : Int)) := by
  have e1 : ((64 * q + r : Int)).tdiv 64 = q := by rw [Int.tdiv_eq_ediv_of_nonneg (by omega)]; omega
  have e2 : ((64 * q + r : Int)).tmod 64 = r := by rw [Int.tmod_eq_emod_of_nonneg (by omega)]; omega
  have hq4 : (q : Int) < 4 := by omega
  have hq0 : (0 : Int) ≤ q := by omega
  have hw1 : IntKind.i64.wrap (q : Int) = q := by rw [IntKind.wrap_i64]; omega
  have hw2 : IntKind.i64.wrap (r : Int) = r := by rw [IntKind.wrap_i64]; omega
  have hw3 : IntKind.u64.wrap (r : Int) = r := by rw [IntKind.wrap_u64]; omega
  have hw4 : min ((r : Int)).toNat 64 = r := by omega
  have h2l : 2 ^ r < 18446744073709551616 := Nat.pow_lt_pow_right (a := 2) (n := 64) (by decide) (by omega)
  have h2r : (2 : Int) ^ r = ((2 ^ r : Nat) : Int) := by simp
  have hw5 : IntKind.u64.wrap ((2 : Int) ^ r) = (2 : Int) ^ r := by rw [h2r, IntKind.wrap_u64]; generalize (2 : Nat) ^ r = p at h2l; omega
  have hbo : bits BinOp.or IntKind.u64 (m : Int) ((2 : Int) ^ r) = ((m ||| 2 ^ r : Nat) : Int) := by rw [h2r]; exact bits_or_u64_nat _ _ hm h2l
  clear h2r
  go_enter Try.func99, Try.ntmps99
  refine wp_region_chain2 [0, 0, 0, 0, 0, 1, 0, 0, 0, 0, 0, 0, 0, 3] [[], [], [], [], [], [], [], [], [], [], [], [], [], []] [.is ?fan0, .is ?fan1, .is ?fan2, .is ?fan3, .is ?fan4, .kn ?fan5, .is ?fan6, .is ?fan7, .is ?fan8, .is (.int .u64 ((2 : Int) ^ r)), .is (.int .u64 ((m ||| 2 ^ r : Nat) : Int)), .is ?fan11, .is ?fan12, .late] (by rfl) (by rfl) (by kernel_rfl) (by kernel_rfl) (by kernel_rfl) (by kernel_rfl) (by kernel_rfl) (by kernel_rfl) (lts_is (lts_is (lts_is (lts_is (lts_is (lts_kn (lts_is (lts_is (lts_is (lts_is (lts_is (lts_is (lts_is (lts_late lts_nil)))))))))))))) (fun W0 hb0 hz0 => ?_)
  rotate_left 11
  rw [show lateIdx [0, 0, 0, 0, 0, 1, 0, 0, 0, 0, 0, 0, 0, 3] = [13] from by rfl]
  have p0 := cell_keep hb0 hc hlt
  have zW : b < W0.heap.size := Nat.lt_of_lt_of_le hlt hb0.size
  have g0 := frozen_keep hb0 hf hlt
  refine chn_is (stp_pure (by rfl) ?yan0) ?ran0
  case yan0 =>
    intro w
    go_simp
    first | done | with_reducible rfl
  (try simp only [Act.put, List.setIfInBounds_toArray, List.set_cons_zero, List.set_cons_succ, List.nil_append, List.cons_append, Nat.reduceAdd])
  refine chn_is (stp_pure (by rfl) ?yan1) ?ran1
  case yan1 =>
    intro w
    go_simp
    first | done | with_reducible rfl
  (try simp only [Act.put, List.setIfInBounds_toArray, List.set_cons_zero, List.set_cons_succ, List.nil_append, List.cons_append, Nat.reduceAdd])
  refine chn_is (stp_pure (by rfl) ?yan2) ?ran2
  case yan2 =>
    intro w
    go_simp
    first | done | with_reducible rfl
  (try simp only [Act.put, List.setIfInBounds_toArray, List.set_cons_zero, List.set_cons_succ, List.nil_append, List.cons_append, Nat.reduceAdd])
  refine chn_is (stp_pure (by rfl) ?yan3) ?ran3
  case yan3 =>
    intro w
    go_simp
    first | done | with_reducible rfl
  (try simp only [Act.put, List.setIfInBounds_toArray, List.set_cons_zero, List.set_cons_succ, List.nil_append, List.cons_append, Nat.reduceAdd])
  refine chn_is (stp_pure (by rfl) ?yan4) ?ran4
  case yan4 =>
    intro w
    go_simp
    first | done | with_reducible rfl
  (try simp only [Act.put, List.setIfInBounds_toArray, List.set_cons_zero, List.set_cons_succ, List.nil_append, List.cons_append, Nat.reduceAdd])
  refine chn_kn (stp_take (by rfl) ?yan5) ?ran5
  case yan5 =>
    intro w hbw hd
    have r0 := cell_keep hbw p0 zW
    clear hd
    go_simp
    first | done | with_reducible rfl
  (try simp only [Act.put, List.setIfInBounds_toArray, List.set_cons_zero, List.set_cons_succ, List.nil_append, List.cons_append, Nat.reduceAdd])
  refine chn_is (stp_pure (by rfl) ?yan6) ?ran6
  case yan6 =>
    intro w
    go_simp
    first | done | with_reducible rfl
  (try simp only [Act.put, List.setIfInBounds_toArray, List.set_cons_zero, List.set_cons_succ, List.nil_append, List.cons_append, Nat.reduceAdd])
  refine chn_is (stp_pure (by rfl) ?yan7) ?ran7
  case yan7 =>
    intro w
    go_simp
    first | done | with_reducible rfl
  (try simp only [Act.put, List.setIfInBounds_toArray, List.set_cons_zero, List.set_cons_succ, List.nil_append, List.cons_append, Nat.reduceAdd])
  refine chn_is (stp_pure (by rfl) ?yan8) ?ran8
  case yan8 =>
    intro w
    go_simp
    first | done | with_reducible rfl
  (try simp only [Act.put, List.setIfInBounds_toArray, List.set_cons_zero, List.set_cons_succ, List.nil_append, List.cons_append, Nat.reduceAdd])
  refine chn_is (stp_pure (by rfl) ?yan9) ?ran9
  case yan9 =>
    intro w
    go_simp
    first | done | rfl
  (try simp only [Act.put, List.setIfInBounds_toArray, List.set_cons_zero, List.set_cons_succ, List.nil_append, List.cons_append, Nat.reduceAdd])
  refine chn_is (stp_pure (by rfl) ?yan10) ?ran10
  case yan10 =>
    intro w
    go_simp
    first | done | rfl
  (try simp only [Act.put, List.setIfInBounds_toArray, List.set_cons_zero, List.set_cons_succ, List.nil_append, List.cons_append, Nat.reduceAdd])
  refine chn_is (stp_pure (by rfl) ?yan11) ?ran11
  case yan11 =>
    intro w
    go_simp
    first | done | with_reducible rfl
  (try simp only [Act.put, List.setIfInBounds_toArray, List.set_cons_zero, List.set_cons_succ, List.nil_append, List.cons_append, Nat.reduceAdd])
  refine chn_is (stp_pure (by rfl) ?yan12) ?ran12
  case yan12 =>
    intro w
    go_simp
    first | done | with_reducible rfl
  (try simp only [Act.put, List.setIfInBounds_toArray, List.set_cons_zero, List.set_cons_succ, List.nil_append, List.cons_append, Nat.reduceAdd])
  refine chn_late ?ran13
  (try simp only [Act.put, List.setIfInBounds_toArray, List.set_cons_zero, List.set_cons_succ, List.nil_append, List.cons_append, Nat.reduceAdd])
  refine chn_end (fun wz lo hi hbz hd hR => ?_)
  have q0 := cell_keep hbz p0 zW
  have qf := frozen_keep hbz g0 zW
  have hbb := hb0.trans (hbz.mono hb0.size)
  clear hd hR p0 g0
  refine late_one (by simp only [List.getElem?_toArray, List.getElem?_cons_succ, List.getElem?_cons_zero]; rfl) (fun K Q' hK => ?_)
  go_simp
  refine hK.out _ ?_
  clear hK K Q'
  go_end0
  exact ⟨rfl, _, hbb, rfl⟩
end Go.Proofs.Ytiobbdfkimpfbaa
namespace Go.Proofs.Ytiobbdfkimpfbaa
set_option linter.unusedSimpArgs false
set_option linter.unusedVariables false
open Go.RowKit Go.Maps

/-- Slices that lie in other blocks, where there is something in them. -/
structure NeZ (Z : Nat → Prop) (A1 A2 A3 : Option Addr) (xs ys : List Int) (rs : List Bool) : Prop where
  a : 0 < xs.length → ∀ g, A1.map (·.block) = some g → ¬ Z g
  i : 0 < ys.length → ∀ g, A2.map (·.block) = some g → ¬ Z g
  r : 0 < rs.length → ∀ g, A3.map (·.block) = some g → ¬ Z g
abbrev NeB (b : Nat) (A1 A2 A3 : Option Addr) (xs ys : List Int) (rs : List Bool) : Prop := NeZ (fun k => k = b) A1 A2 A3 xs ys rs
theorem NewL.neZ {base : Nat} {Z : Nat → Prop} {A1 A2 A3 : Option Addr} (h : NewL base A1 A2 A3) (hz : ∀ k, Z k → k < base) (xs ys : List Int) (rs : List Bool) : NeZ Z A1 A2 A3 xs ys rs :=
  ⟨fun _ g e hg => by have := h.a g e; have := hz g hg; omega, fun _ g e hg => by have := h.i g e; have := hz g hg; omega, fun _ g e hg => by have := h.r g e; have := hz g hg; omega⟩
theorem NewL.neB {base b : Nat} {A1 A2 A3 : Option Addr} (h : NewL base A1 A2 A3) (hb : b < base) (xs ys : List Int) (rs : List Bool) : NeB b A1 A2 A3 xs ys rs := h.neZ (fun k e => by omega) xs ys rs
theorem Sl.in_ {α : Type} {w : World} {mk : α → Value} {A : Option Addr} {xs : List α} (h : Sl w mk A xs) (hp : 0 < xs.length) {g : Nat} (e : A.map (·.block) = some g) : g < w.heap.size := by
  obtain ⟨b, off, rfl, hb, _⟩ := h hp
  simp at e
  omega
theorem InMem.neZ {w : World} {Z : Nat → Prop} {A1 A2 A3 : Option Addr} {xs ys : List Int} {rs : List Bool} (h : InMem w A1 A2 A3 xs ys rs) (hz : ∀ k, Z k → w.heap.size ≤ k) : NeZ Z A1 A2 A3 xs ys rs :=
  ⟨fun hp g e hg => by have := h.a.in_ hp e; have := hz g hg; omega, fun hp g e hg => by have := h.i.in_ hp e; have := hz g hg; omega, fun hp g e hg => by have := h.r.in_ hp e; have := hz g hg; omega⟩
theorem NeZ.or {Z Z' : Nat → Prop} {A1 A2 A3 : Option Addr} {xs ys : List Int} {rs : List Bool} (h : NeZ Z A1 A2 A3 xs ys rs) (h' : NeZ Z' A1 A2 A3 xs ys rs) : NeZ (fun k => Z k ∨ Z' k) A1 A2 A3 xs ys rs :=
  ⟨fun hp g e => not_or.2 ⟨h.a hp g e, h'.a hp g e⟩, fun hp g e => not_or.2 ⟨h.i hp g e, h'.i hp g e⟩, fun hp g e => not_or.2 ⟨h.r hp g e, h'.r hp g e⟩⟩
theorem NeZ.sub {Z Z' : Nat → Prop} {A1 A2 A3 : Option Addr} {xs ys : List Int} {rs : List Bool} (h : NeZ Z A1 A2 A3 xs ys rs) (hz : ∀ k, Z' k → Z k) : NeZ Z' A1 A2 A3 xs ys rs :=
  ⟨fun hp g e hg => h.a hp g e (hz g hg), fun hp g e hg => h.i hp g e (hz g hg), fun hp g e hg => h.r hp g e (hz g hg)⟩
theorem Sl.aside_ {α : Type} {w w' : World} {Z : Nat → Prop} {mk : α → Value} {A : Option Addr} {xs : List α} (h : Sl w mk A xs) (ha : Aside Z w w') (hz : 0 < xs.length → ∀ q, A.map (·.block) = some q → ¬ Z q) : Sl w' mk A xs := fun hn => ha.sl h (hz hn) hn
/-- Lists that read as before. -/
theorem InMem.aside {w w' : World} {Z : Nat → Prop} {A1 A2 A3 : Option Addr} {xs ys : List Int} {rs : List Bool} (h : InMem w A1 A2 A3 xs ys rs) (ha : Aside Z w w') (hn : NeZ Z A1 A2 A3 xs ys rs) : InMem w' A1 A2 A3 xs ys rs :=
  ⟨h.a.aside_ ha hn.a, h.i.aside_ ha hn.i, h.r.aside_ ha hn.r, h.la, h.li, h.lr, h.wa, h.wi⟩
theorem InMem.set_ {w : World} {b : Nat} {A1 A2 A3 : Option Addr} {xs ys : List Int} {rs : List Bool} (h : InMem w A1 A2 A3 xs ys rs) (hn : NeB b A1 A2 A3 xs ys rs) (o : Nat) (v : Value) : InMem (w.setCell ⟨b, o, none⟩ v) A1 A2 A3 xs ys rs :=
  h.aside ((Aside.refl (fun k => k = b) w).setCell (p := ⟨b, o, none⟩) (.inr rfl) v) hn
/-- What lies in a walk's block. -/
def wkC (A1 A2 A3 : Option Addr) (c1 c2 c3 : Nat) (xs ys : List Int) (rs : List Bool) (T F : Int) (mv : List Int) : Array Value :=
  #[.slice A1 xs.length c1, .slice A2 ys.length c2, .slice A3 rs.length c3, .int .i64 T, .int .i64 F, .int .u64 (wrd 0 mv), .int .u64 (wrd 1 mv), .int .u64 (wrd 2 mv), .int .u64 (wrd 3 mv)]
/-- A walk that lies in block b. -/
structure WK (w : World) (b : Nat) (A1 A2 A3 : Option Addr) (c1 c2 c3 : Nat) (xs ys : List Int) (rs : List Bool) (T F : Int) (mv : List Int) : Prop where
  blk : Blk w b 66 #[.slice A1 xs.length c1, .slice A2 ys.length c2, .slice A3 rs.length c3, .int .i64 T, .int .i64 F, .int .u64 (wrd 0 mv), .int .u64 (wrd 1 mv), .int .u64 (wrd 2 mv), .int .u64 (wrd 3 mv)]
  mem : InMem w A1 A2 A3 xs ys rs
  ne : NeB b A1 A2 A3 xs ys rs
section
variable {b : Nat} {A1 A2 A3 : Option Addr} {c1 c2 c3 : Nat} {xs ys : List Int} {rs : List Bool} {T F : Int} {mv : List Int} {w w' : World}
theorem WK.below (h : WK w b A1 A2 A3 c1 c2 c3 xs ys rs T F mv) (hb : Below w.heap.size w w') : WK w' b A1 A2 A3 c1 c2 c3 xs ys rs T F mv := ⟨h.blk.below_ hb h.blk.lt, h.mem.ext hb, h.ne⟩
theorem WK.aside {Z : Nat → Prop} (h : WK w b A1 A2 A3 c1 c2 c3 xs ys rs T F mv) (ha : Aside Z w w') (h0 : ¬ Z b) (hn : NeZ Z A1 A2 A3 xs ys rs) :
    WK w' b A1 A2 A3 c1 c2 c3 xs ys rs T F mv := ⟨ha.blk h.blk h0, h.mem.aside ha hn, h.ne⟩
theorem WK.word (h : WK w b A1 A2 A3 c1 c2 c3 xs ys rs T F mv) {q : Nat} (hq : q < 4) : w.cell? ⟨b, 5 + q, none⟩ = some (.int .u64 (wrd q mv)) := by
  rw [h.blk.cell_]
  rcases (by omega : q = 0 ∨ q = 1 ∨ q = 2 ∨ q = 3) with rfl | rfl | rfl | rfl <;> simp
end

set_option maxRecDepth 100000 in
set_option maxHeartbeats 4000000 in
theorem move_any (b : Nat) (A1 A2 A3 B1 B2 B3 : Option Addr) (c1 c2 c3 d1 d2 d3 : Nat) (xs ys us vs : List Int) (rs ss : List Bool) (T F f : Int) (mv : List Int) (w : World) (h : WK w b A1 A2 A3 c1 c2 c3 xs ys rs T F mv)
    (hm : InMem w B1 B2 B3 us vs ss) (hn : NeB b B1 B2 B3 us vs ss) (f0 : 0 ≤ f) (f1 : f < 256) :
    Calls Try.prog 83 #[.pointer (some ⟨b, 0, none⟩), .agg #[.slice B1 us.length d1, .slice B2 vs.length d2, .slice B3 ss.length d3], .int .i64 f, .int .i64 0] w fun e w' =>
      e = .returned (.bool true) ∧ WK w' b B1 B2 B3 d1 d2 d3 us vs ss T f (f :: mv) ∧ Aside (fun k => k = b) w w' := by
  obtain ⟨q, r, hq, hr, rfl⟩ : ∃ q r : Nat, q < 4 ∧ r < 64 ∧ f = 64 * (q : Int) + r := ⟨f.toNat / 64, f.toNat % 64, by omega, by omega, by omega⟩
  have hlt := h.blk.lt
  have hnb : b ≠ w.heap.size := by omega
  have nbs : w.heap.size ≠ b := by omega
  have g0 := h.blk.frozen_ 0
  have g1 := h.blk.frozen_ 1
  have g2 := h.blk.frozen_ 2
  have g4 := h.blk.frozen_ 4
  have m0 : w.cell? ⟨b, 0, none⟩ = some (.slice A1 xs.length c1) := (h.blk.cell_ 0).trans (by simp)
  have m1 : w.cell? ⟨b, 1, none⟩ = some (.slice A2 ys.length c2) := (h.blk.cell_ 1).trans (by simp)
  have m2 : w.cell? ⟨b, 2, none⟩ = some (.slice A3 rs.length c3) := (h.blk.cell_ 2).trans (by simp)
  have m4 : w.cell? ⟨b, 4, none⟩ = some (.int .i64 F) := (h.blk.cell_ 4).trans (by simp)
  have H := Lib.hid h; have HM := Lib.hid hm; have HN := Lib.hid hn
  clear h hm hn
  go_enter Try.func83, Try.ntmps83
  go_wp2_with fail
  obtain ⟨V, hV⟩ : ∃ V, ((((w.setCell ⟨b, 0, none⟩ (.slice B1 us.length d1)).setCell ⟨b, 1, none⟩ (.slice B2 vs.length d2)).setCell ⟨b, 2, none⟩ (.slice B3 ss.length d3)).setCell ⟨b, 4, none⟩ (.int .i64 (64 * (q : Int) + r))).alloc (.cells #[.slice B1 us.length d1, .slice B2 vs.length d2, .slice B3 ss.length d3] 25) = V := ⟨_, rfl⟩
  have KV : Hid (WK V b B1 B2 B3 d1 d2 d3 us vs ss T (64 * (q : Int) + r) mv) := by
    show WK _ _ _ _ _ _ _ _ _ _ _ _ _ _
    rw [← hV]
    refine ⟨?_, (((((HM.out.set_ HN.out _ _).set_ HN.out _ _).set_ HN.out _ _).set_ HN.out _ _).ext ((Below.refl _ _).alloc (Nat.le_refl _) _)), HN.out⟩
    simpa using ((((H.out.blk.set_ 0 (.slice B1 us.length d1)).set_ 1 (.slice B2 vs.length d2)).set_ 2 (.slice B3 ss.length d3)).set_ 4 (.int .i64 (64 * (q : Int) + r))).alloc_ _
  have AV : Hid (Aside (fun k => k = b) w V) := by
    show Aside _ _ _
    rw [← hV]
    exact (((((Aside.refl (fun k => k = b) w).setCell (p := ⟨b, 0, none⟩) (.inr rfl) _).setCell (p := ⟨b, 1, none⟩) (.inr rfl) _).setCell (p := ⟨b, 2, none⟩) (.inr rfl) _).setCell (p := ⟨b, 4, none⟩) (.inr rfl) _).alloc _
  rw [hV]
  clear hV g0 g1 g2 g4 m0 m1 m2 m4 H HM
  have hlv := KV.out.blk.lt
  refine (add_any b 5 q r (wrd q mv) _ hq hr hlv (KV.out.blk.frozen_ _) (KV.out.word hq) (wrd_lt q mv)).mono ?_
  rintro e w' ⟨rfl, W, hbW, rfl⟩
  have KW := Lib.hid (KV.out.below hbW)
  have AW : Aside (fun k => k = b) w (W.setCell ⟨b, 5 + q, none⟩ (.int .u64 ((wrd q mv ||| 2 ^ r : Nat) : Int))) := (AV.out.trans (Aside.of_below hbW)).setCell (.inr rfl) _
  clear hbW KV AV
  go_wp2_with fail
  go_ret
  refine ⟨rfl, ⟨?_, KW.out.mem.set_ HN.out _ _, HN.out⟩, AW⟩
  have e1 : (64 * (q : Int) + r).toNat / 64 = q := by omega
  have e2 : (64 * (q : Int) + r).toNat % 64 = r := by omega
  have := KW.out.blk.set_ (5 + q) (.int .u64 ((wrd q mv ||| 2 ^ r : Nat) : Int))
  clear AW KW
  rcases (by omega : q = 0 ∨ q = 1 ∨ q = 2 ∨ q = 3) with rfl | rfl | rfl | rfl <;> (simp only [wrd, e1, e2]; simpa using this)

end Go.Proofs.Ytiobbdfkimpfbaa
namespace Go.Proofs.Ytiobbdfkimpfbaa
set_option linter.unusedSimpArgs false
set_option linter.unusedVariables false
open Go.RowKit Go.Maps

set_option maxRecDepth 100000 in
set_option maxHeartbeats 4000000 in
theorem demote_none (b : Nat) (A1 A2 A3 : Option Addr) (c1 c2 c3 : Nat) (xs ys : List Int) (rs : List Bool) (T F : Int) (mv : List Int) (w : World) (h : WK w b A1 A2 A3 c1 c2 c3 xs ys rs T F mv) (h0 : xs.length = 0) :
    Calls Try.prog 66 #[.pointer (some ⟨b, 0, none⟩)] w fun e w' => e = .returned (.bool false) ∧ Below w.heap.size w w' := by
  have hlt := h.blk.lt
  have i0 : ((xs.length : Int) == 0) = true := by simpa using h0
  have K := Lib.hid h
  clear h h0
  go_enter Try.func66, Try.ntmps66
  go_wp2_with fail
  refine wp_region_chain2 [0, 0, 0, 0, 1, 0, 0, 0, 0, 0, 0, 0, 0, 0, 0, 0, 0, 0, 0, 0] [[], [], [], [], [], [], [], [], [], [], [], [], [], [], [], [], [], [], [], []] [.is ?fan0, .is ?fan1, .is ?fan2, .is ?fan3, .kn ?fan4, .is ?fan5, .is ?fan6, .is ?fan7, .is undef, .is undef, .is undef, .is undef, .is undef, .is undef, .is undef, .is undef, .is undef, .is undef, .is undef, .is ?fan19] (by rfl) (by rfl) (by kernel_rfl) (by kernel_rfl) (by kernel_rfl) (by kernel_rfl) (by kernel_rfl) (by kernel_rfl) (lts_is (lts_is (lts_is (lts_is (lts_kn (lts_is (lts_is (lts_is (lts_is (lts_is (lts_is (lts_is (lts_is (lts_is (lts_is (lts_is (lts_is (lts_is (lts_is (lts_is lts_nil)))))))))))))))))))) (fun W0 hb0 hz0 => ?_)
  rotate_left 9
  rw [show lateIdx [0, 0, 0, 0, 1, 0, 0, 0, 0, 0, 0, 0, 0, 0, 0, 0, 0, 0, 0, 0] = [] from by rfl]
  have kW := K.out.blk.below_ hb0 hlt
  have zW := kW.lt
  have p0 : W0.cell? ⟨b, 0, none⟩ = some (.slice A1 xs.length c1) := (kW.cell_ 0).trans (by simp)
  refine chn_is (stp_pure (by rfl) ?yan0) ?ran0
  case yan0 =>
    intro w
    go_simp
    first | done | with_reducible rfl
  (try simp only [Act.put, List.setIfInBounds_toArray, List.set_cons_zero, List.set_cons_succ, List.nil_append, List.cons_append, Nat.reduceAdd])
  refine chn_is (stp_pure (by rfl) ?yan1) ?ran1
  case yan1 =>
    intro w
    go_simp
    first | done | with_reducible rfl
  (try simp only [Act.put, List.setIfInBounds_toArray, List.set_cons_zero, List.set_cons_succ, List.nil_append, List.cons_append, Nat.reduceAdd])
  refine chn_is (stp_pure (by rfl) ?yan2) ?ran2
  case yan2 =>
    intro w
    go_simp
    first | done | with_reducible rfl
  (try simp only [Act.put, List.setIfInBounds_toArray, List.set_cons_zero, List.set_cons_succ, List.nil_append, List.cons_append, Nat.reduceAdd])
  refine chn_is (stp_pure (by rfl) ?yan3) ?ran3
  case yan3 =>
    intro w
    go_simp
    first | done | with_reducible rfl
  (try simp only [Act.put, List.setIfInBounds_toArray, List.set_cons_zero, List.set_cons_succ, List.nil_append, List.cons_append, Nat.reduceAdd])
  refine chn_kn (stp_take (by rfl) ?yan4) ?ran4
  case yan4 =>
    intro w hbw hd
    have r0 := cell_keep hbw p0 zW
    clear hd
    go_simp
    first | done | with_reducible rfl
  (try simp only [Act.put, List.setIfInBounds_toArray, List.set_cons_zero, List.set_cons_succ, List.nil_append, List.cons_append, Nat.reduceAdd])
  refine chn_is (stp_pure (by rfl) ?yan5) ?ran5
  case yan5 =>
    intro w
    go_simp
    first | done | with_reducible rfl
  (try simp only [Act.put, List.setIfInBounds_toArray, List.set_cons_zero, List.set_cons_succ, List.nil_append, List.cons_append, Nat.reduceAdd])
  refine chn_is (stp_pure (by rfl) ?yan6) ?ran6
  case yan6 =>
    intro w
    go_simp
    first | done | with_reducible rfl
  (try simp only [Act.put, List.setIfInBounds_toArray, List.set_cons_zero, List.set_cons_succ, List.nil_append, List.cons_append, Nat.reduceAdd])
  refine chn_is (stp_pure (by rfl) ?yan7) ?ran7
  case yan7 =>
    intro w
    go_simp
    first | done | with_reducible rfl
  (try simp only [Act.put, List.setIfInBounds_toArray, List.set_cons_zero, List.set_cons_succ, List.nil_append, List.cons_append, Nat.reduceAdd])
  refine chn_is (stp_un (by rfl)) ?ran8
  (try simp only [Act.put, List.setIfInBounds_toArray, List.set_cons_zero, List.set_cons_succ, List.nil_append, List.cons_append, Nat.reduceAdd])
  refine chn_is (stp_un (by rfl)) ?ran9
  (try simp only [Act.put, List.setIfInBounds_toArray, List.set_cons_zero, List.set_cons_succ, List.nil_append, List.cons_append, Nat.reduceAdd])
  refine chn_is (stp_un (by rfl)) ?ran10
  (try simp only [Act.put, List.setIfInBounds_toArray, List.set_cons_zero, List.set_cons_succ, List.nil_append, List.cons_append, Nat.reduceAdd])
  refine chn_is (stp_un (by rfl)) ?ran11
  (try simp only [Act.put, List.setIfInBounds_toArray, List.set_cons_zero, List.set_cons_succ, List.nil_append, List.cons_append, Nat.reduceAdd])
  refine chn_is (stp_un (by rfl)) ?ran12
  (try simp only [Act.put, List.setIfInBounds_toArray, List.set_cons_zero, List.set_cons_succ, List.nil_append, List.cons_append, Nat.reduceAdd])
  refine chn_is (stp_un (by rfl)) ?ran13
  (try simp only [Act.put, List.setIfInBounds_toArray, List.set_cons_zero, List.set_cons_succ, List.nil_append, List.cons_append, Nat.reduceAdd])
  refine chn_is (stp_un (by rfl)) ?ran14
  (try simp only [Act.put, List.setIfInBounds_toArray, List.set_cons_zero, List.set_cons_succ, List.nil_append, List.cons_append, Nat.reduceAdd])
  refine chn_is (stp_un (by rfl)) ?ran15
  (try simp only [Act.put, List.setIfInBounds_toArray, List.set_cons_zero, List.set_cons_succ, List.nil_append, List.cons_append, Nat.reduceAdd])
  refine chn_is (stp_un (by rfl)) ?ran16
  (try simp only [Act.put, List.setIfInBounds_toArray, List.set_cons_zero, List.set_cons_succ, List.nil_append, List.cons_append, Nat.reduceAdd])
  refine chn_is (stp_un (by rfl)) ?ran17
  (try simp only [Act.put, List.setIfInBounds_toArray, List.set_cons_zero, List.set_cons_succ, List.nil_append, List.cons_append, Nat.reduceAdd])
  refine chn_is (stp_un (by rfl)) ?ran18
  (try simp only [Act.put, List.setIfInBounds_toArray, List.set_cons_zero, List.set_cons_succ, List.nil_append, List.cons_append, Nat.reduceAdd])
  refine chn_is (stp_pure (by rfl) ?yan19) ?ran19
  case yan19 =>
    intro w
    go_simp
    first | done | with_reducible rfl
  (try simp only [Act.put, List.setIfInBounds_toArray, List.set_cons_zero, List.set_cons_succ, List.nil_append, List.cons_append, Nat.reduceAdd])
  refine chn_end (fun wz lo hi hbz hd hR => ?_)
  have hbb := hb0.trans (hbz.mono hb0.size)
  clear hd hR hb0 hbz hz0 zW kW
  refine late_none ?_
  obtain ⟨x4, rfl⟩ : ∃ x4 : World, x4 = wz := ⟨_, rfl⟩
  clear p0
  go_wp2_with fail
  go_ret
  exact ⟨rfl, hbb⟩

set_option maxRecDepth 100000 in
set_option maxHeartbeats 4000000 in
theorem demote_full (b : Nat) (A1 A2 A3 : Option Addr) (c1 c2 c3 : Nat) (xs ys : List Int) (rs : List Bool) (T F : Int) (mv : List Int) (w : World) (h : WK w b A1 A2 A3 c1 c2 c3 xs ys rs T F mv) (h0 : 0 < xs.length) (h1 : (ys.length : Int) ≥ T) :
    Calls Try.prog 66 #[.pointer (some ⟨b, 0, none⟩)] w fun e w' => e = .returned (.bool false) ∧ Below w.heap.size w w' := by
  have hlt := h.blk.lt
  have i0 : ((xs.length : Int) == 0) = false := by rw [beq_eq_false_iff_ne]; omega
  have i1 : decide ((ys.length : Int) ≥ T) = true := by simpa using h1
  have i2 : T ≤ (ys.length : Int) := h1
  have K := Lib.hid h
  clear h h0 h1
  go_enter Try.func66, Try.ntmps66
  go_wp2_with fail
  refine wp_region_chain2 [0, 0, 0, 0, 1, 0, 0, 0, 0, 0, 0, 0, 1, 0, 0, 0, 0, 1, 0, 0] [[], [], [], [], [], [], [], [], [], [], [], [], [], [], [], [], [], [], [], []] [.is ?fan0, .is ?fan1, .is ?fan2, .is ?fan3, .kn ?fan4, .is ?fan5, .is ?fan6, .is ?fan7, .is ?fan8, .is ?fan9, .is ?fan10, .is ?fan11, .kn ?fan12, .is ?fan13, .is ?fan14, .is ?fan15, .is ?fan16, .kn ?fan17, .is ?fan18, .is ?fan19] (by rfl) (by rfl) (by kernel_rfl) (by kernel_rfl) (by kernel_rfl) (by kernel_rfl) (by kernel_rfl) (by kernel_rfl) (lts_is (lts_is (lts_is (lts_is (lts_kn (lts_is (lts_is (lts_is (lts_is (lts_is (lts_is (lts_is (lts_kn (lts_is (lts_is (lts_is (lts_is (lts_kn (lts_is (lts_is lts_nil)))))))))))))))))))) (fun W0 hb0 hz0 => ?_)
  rotate_left 20
  rw [show lateIdx [0, 0, 0, 0, 1, 0, 0, 0, 0, 0, 0, 0, 1, 0, 0, 0, 0, 1, 0, 0] = [] from by rfl]
  have kW := K.out.blk.below_ hb0 hlt
  have zW := kW.lt
  have p0 : W0.cell? ⟨b, 0, none⟩ = some (.slice A1 xs.length c1) := (kW.cell_ 0).trans (by simp)
  have p1 : W0.cell? ⟨b, 1, none⟩ = some (.slice A2 ys.length c2) := (kW.cell_ 1).trans (by simp)
  have p3 : W0.cell? ⟨b, 3, none⟩ = some (.int .i64 T) := (kW.cell_ 3).trans (by simp)
  refine chn_is (stp_pure (by rfl) ?yan0) ?ran0
  case yan0 =>
    intro w
    go_simp
    first | done | with_reducible rfl
  (try simp only [Act.put, List.setIfInBounds_toArray, List.set_cons_zero, List.set_cons_succ, List.nil_append, List.cons_append, Nat.reduceAdd])
  refine chn_is (stp_pure (by rfl) ?yan1) ?ran1
  case yan1 =>
    intro w
    go_simp
    first | done | with_reducible rfl
  (try simp only [Act.put, List.setIfInBounds_toArray, List.set_cons_zero, List.set_cons_succ, List.nil_append, List.cons_append, Nat.reduceAdd])
  refine chn_is (stp_pure (by rfl) ?yan2) ?ran2
  case yan2 =>
    intro w
    go_simp
    first | done | with_reducible rfl
  (try simp only [Act.put, List.setIfInBounds_toArray, List.set_cons_zero, List.set_cons_succ, List.nil_append, List.cons_append, Nat.reduceAdd])
  refine chn_is (stp_pure (by rfl) ?yan3) ?ran3
  case yan3 =>
    intro w
    go_simp
    first | done | with_reducible rfl
  (try simp only [Act.put, List.setIfInBounds_toArray, List.set_cons_zero, List.set_cons_succ, List.nil_append, List.cons_append, Nat.reduceAdd])
  refine chn_kn (stp_take (by rfl) ?yan4) ?ran4
  case yan4 =>
    intro w hbw hd
    have r0 := cell_keep hbw p0 zW
    clear hd
    go_simp
    first | done | with_reducible rfl
  (try simp only [Act.put, List.setIfInBounds_toArray, List.set_cons_zero, List.set_cons_succ, List.nil_append, List.cons_append, Nat.reduceAdd])
  refine chn_is (stp_pure (by rfl) ?yan5) ?ran5
  case yan5 =>
    intro w
    go_simp
    first | done | with_reducible rfl
  (try simp only [Act.put, List.setIfInBounds_toArray, List.set_cons_zero, List.set_cons_succ, List.nil_append, List.cons_append, Nat.reduceAdd])
  refine chn_is (stp_pure (by rfl) ?yan6) ?ran6
  case yan6 =>
    intro w
    go_simp
    first | done | with_reducible rfl
  (try simp only [Act.put, List.setIfInBounds_toArray, List.set_cons_zero, List.set_cons_succ, List.nil_append, List.cons_append, Nat.reduceAdd])
  refine chn_is (stp_pure (by rfl) ?yan7) ?ran7
  case yan7 =>
    intro w
    go_simp
    first | done | with_reducible rfl
  (try simp only [Act.put, List.setIfInBounds_toArray, List.set_cons_zero, List.set_cons_succ, List.nil_append, List.cons_append, Nat.reduceAdd])
  refine chn_is (stp_pure (by rfl) ?yan8) ?ran8
  case yan8 =>
    intro w
    go_simp
    first | done | with_reducible rfl
  (try simp only [Act.put, List.setIfInBounds_toArray, List.set_cons_zero, List.set_cons_succ, List.nil_append, List.cons_append, Nat.reduceAdd])
  refine chn_is (stp_pure (by rfl) ?yan9) ?ran9
  case yan9 =>
    intro w
    go_simp
    first | done | with_reducible rfl
  (try simp only [Act.put, List.setIfInBounds_toArray, List.set_cons_zero, List.set_cons_succ, List.nil_append, List.cons_append, Nat.reduceAdd])
  refine chn_is (stp_pure (by rfl) ?yan10) ?ran10
  case yan10 =>
    intro w
    go_simp
    first | done | with_reducible rfl
  (try simp only [Act.put, List.setIfInBounds_toArray, List.set_cons_zero, List.set_cons_succ, List.nil_append, List.cons_append, Nat.reduceAdd])
  refine chn_is (stp_pure (by rfl) ?yan11) ?ran11
  case yan11 =>
    intro w
    go_simp
    first | done | with_reducible rfl
  (try simp only [Act.put, List.setIfInBounds_toArray, List.set_cons_zero, List.set_cons_succ, List.nil_append, List.cons_append, Nat.reduceAdd])
  refine chn_kn (stp_take (by rfl) ?yan12) ?ran12
  case yan12 =>
    intro w hbw hd
    have r1 := cell_keep hbw p1 zW
    clear hd
    go_simp
    first | done | with_reducible rfl
  (try simp only [Act.put, List.setIfInBounds_toArray, List.set_cons_zero, List.set_cons_succ, List.nil_append, List.cons_append, Nat.reduceAdd])
  refine chn_is (stp_pure (by rfl) ?yan13) ?ran13
  case yan13 =>
    intro w
    go_simp
    first | done | with_reducible rfl
  (try simp only [Act.put, List.setIfInBounds_toArray, List.set_cons_zero, List.set_cons_succ, List.nil_append, List.cons_append, Nat.reduceAdd])
  refine chn_is (stp_pure (by rfl) ?yan14) ?ran14
  case yan14 =>
    intro w
    go_simp
    first | done | with_reducible rfl
  (try simp only [Act.put, List.setIfInBounds_toArray, List.set_cons_zero, List.set_cons_succ, List.nil_append, List.cons_append, Nat.reduceAdd])
  refine chn_is (stp_pure (by rfl) ?yan15) ?ran15
  case yan15 =>
    intro w
    go_simp
    first | done | with_reducible rfl
  (try simp only [Act.put, List.setIfInBounds_toArray, List.set_cons_zero, List.set_cons_succ, List.nil_append, List.cons_append, Nat.reduceAdd])
  refine chn_is (stp_pure (by rfl) ?yan16) ?ran16
  case yan16 =>
    intro w
    go_simp
    first | done | with_reducible rfl
  (try simp only [Act.put, List.setIfInBounds_toArray, List.set_cons_zero, List.set_cons_succ, List.nil_append, List.cons_append, Nat.reduceAdd])
  refine chn_kn (stp_take (by rfl) ?yan17) ?ran17
  case yan17 =>
    intro w hbw hd
    have r3 := cell_keep hbw p3 zW
    clear hd
    go_simp
    first | done | with_reducible rfl
  (try simp only [Act.put, List.setIfInBounds_toArray, List.set_cons_zero, List.set_cons_succ, List.nil_append, List.cons_append, Nat.reduceAdd])
  refine chn_is (stp_pure (by rfl) ?yan18) ?ran18
  case yan18 =>
    intro w
    go_simp
    first | done | with_reducible rfl
  (try simp only [Act.put, List.setIfInBounds_toArray, List.set_cons_zero, List.set_cons_succ, List.nil_append, List.cons_append, Nat.reduceAdd])
  refine chn_is (stp_pure (by rfl) ?yan19) ?ran19
  case yan19 =>
    intro w
    go_simp
    first | done | with_reducible rfl
  (try simp only [Act.put, List.setIfInBounds_toArray, List.set_cons_zero, List.set_cons_succ, List.nil_append, List.cons_append, Nat.reduceAdd])
  refine chn_end (fun wz lo hi hbz hd hR => ?_)
  have hbb := hb0.trans (hbz.mono hb0.size)
  clear hd hR hb0 hbz hz0 zW kW
  refine late_none ?_
  obtain ⟨x4, rfl⟩ : ∃ x4 : World, x4 = wz := ⟨_, rfl⟩
  clear p0 p1 p3
  go_wp2_with fail
  go_ret
  exact ⟨rfl, hbb⟩

/-- A walk behind a step that moved a frame. -/
def MvPost (b : Nat) (us vs : List Int) (ss : List Bool) (T f : Int) (mv : List Int) (w : World) (e : Ending) (w' : World) : Prop :=
  e = .returned (.bool true) ∧ ∃ B1 B2 B3 d1 d2 d3, WK w' b B1 B2 B3 d1 d2 d3 us vs ss T f (f :: mv) ∧ NewL w.heap.size B1 B2 B3 ∧ Aside (fun k => k = b) w w'

set_option maxRecDepth 100000 in
set_option maxHeartbeats 4000000 in
theorem demote_yes (b : Nat) (A1 A2 A3 : Option Addr) (c1 c2 c3 : Nat) (xs ys : List Int) (rs : List Bool) (T F : Int) (mv : List Int) (w : World) (h : WK w b A1 A2 A3 c1 c2 c3 xs ys rs T F mv) (hc : lruChk xs ys rs = 0) (h0 : 0 < xs.length) (h1 : (ys.length : Int) < T) :
    Calls Try.prog 66 #[.pointer (some ⟨b, 0, none⟩)] w (MvPost b (dX xs ys) (dY xs ys) (rs.set (lastF xs).toNat false) T (lastF xs) mv w) := by
  have hlt := h.blk.lt
  have i0 : ((xs.length : Int) == 0) = false := by rw [beq_eq_false_iff_ne]; omega
  have i1 : decide ((ys.length : Int) ≥ T) = false := by simp; omega
  have i2 : ¬ T ≤ (ys.length : Int) := by omega
  have hv := valid_of_chk hc
  obtain ⟨f, hf⟩ : ∃ f, lastF xs = f := ⟨_, rfl⟩
  have hf2 : 0 ≤ f ∧ f < 256 := by
    have := hv.range (lastF xs) (by simp [lastF_mem h0])
    have := hv.hi
    rw [hf] at *
    omega
  have HD : Hid (demS xs ys rs = ⟨dX xs ys, dY xs ys, rs.set f.toNat false, 0⟩ ∧ demF xs ys rs = f) := by
    refine ⟨?_, ?_⟩
    · unfold demS; rw [if_neg (by simpa using hc), if_neg (by omega), hf]
    · unfold demF; rw [if_neg (by simpa using hc), if_neg (by omega), hf]
  have K := Lib.hid h
  clear h hc hv h1
  rw [hf]
  clear hf
  obtain ⟨us, hus⟩ : ∃ l, dX xs ys = l := ⟨_, rfl⟩
  obtain ⟨vs, hvs⟩ : ∃ l, dY xs ys = l := ⟨_, rfl⟩
  obtain ⟨ss, hss⟩ : ∃ l, rs.set f.toNat false = l := ⟨_, rfl⟩
  rw [hus, hvs, hss] at HD
  rw [hus, hvs, hss]
  clear hus hvs hss
  go_enter Try.func66, Try.ntmps66
  go_wp2_with fail
  refine wp_region_chain2 [0, 0, 0, 0, 1, 0, 0, 0, 0, 0, 0, 0, 1, 0, 0, 0, 0, 1, 0, 0] [[], [], [], [], [], [], [], [], [], [], [], [], [], [], [], [], [], [], [], []] [.is ?fan0, .is ?fan1, .is ?fan2, .is ?fan3, .kn ?fan4, .is ?fan5, .is ?fan6, .is ?fan7, .is ?fan8, .is ?fan9, .is ?fan10, .is ?fan11, .kn ?fan12, .is ?fan13, .is ?fan14, .is ?fan15, .is ?fan16, .kn ?fan17, .is ?fan18, .is ?fan19] (by rfl) (by rfl) (by kernel_rfl) (by kernel_rfl) (by kernel_rfl) (by kernel_rfl) (by kernel_rfl) (by kernel_rfl) (lts_is (lts_is (lts_is (lts_is (lts_kn (lts_is (lts_is (lts_is (lts_is (lts_is (lts_is (lts_is (lts_kn (lts_is (lts_is (lts_is (lts_is (lts_kn (lts_is (lts_is lts_nil)))))))))))))))))))) (fun W0 hb0 hz0 => ?_)
  rotate_left 20
  rw [show lateIdx [0, 0, 0, 0, 1, 0, 0, 0, 0, 0, 0, 0, 1, 0, 0, 0, 0, 1, 0, 0] = [] from by rfl]
  have kW := K.out.blk.below_ hb0 hlt
  have zW := kW.lt
  have p0 : W0.cell? ⟨b, 0, none⟩ = some (.slice A1 xs.length c1) := (kW.cell_ 0).trans (by simp)
  have p1 : W0.cell? ⟨b, 1, none⟩ = some (.slice A2 ys.length c2) := (kW.cell_ 1).trans (by simp)
  have p3 : W0.cell? ⟨b, 3, none⟩ = some (.int .i64 T) := (kW.cell_ 3).trans (by simp)
  refine chn_is (stp_pure (by rfl) ?yan0) ?ran0
  case yan0 =>
    intro w
    go_simp
    first | done | with_reducible rfl
  (try simp only [Act.put, List.setIfInBounds_toArray, List.set_cons_zero, List.set_cons_succ, List.nil_append, List.cons_append, Nat.reduceAdd])
  refine chn_is (stp_pure (by rfl) ?yan1) ?ran1
  case yan1 =>
    intro w
    go_simp
    first | done | with_reducible rfl
  (try simp only [Act.put, List.setIfInBounds_toArray, List.set_cons_zero, List.set_cons_succ, List.nil_append, List.cons_append, Nat.reduceAdd])
  refine chn_is (stp_pure (by rfl) ?yan2) ?ran2
  case yan2 =>
    intro w
    go_simp
    first | done | with_reducible rfl
  (try simp only [Act.put, List.setIfInBounds_toArray, List.set_cons_zero, List.set_cons_succ, List.nil_append, List.cons_append, Nat.reduceAdd])
  refine chn_is (stp_pure (by rfl) ?yan3) ?ran3
  case yan3 =>
    intro w
    go_simp
    first | done | with_reducible rfl
  (try simp only [Act.put, List.setIfInBounds_toArray, List.set_cons_zero, List.set_cons_succ, List.nil_append, List.cons_append, Nat.reduceAdd])
  refine chn_kn (stp_take (by rfl) ?yan4) ?ran4
  case yan4 =>
    intro w hbw hd
    have r0 := cell_keep hbw p0 zW
    clear hd
    go_simp
    first | done | with_reducible rfl
  (try simp only [Act.put, List.setIfInBounds_toArray, List.set_cons_zero, List.set_cons_succ, List.nil_append, List.cons_append, Nat.reduceAdd])
  refine chn_is (stp_pure (by rfl) ?yan5) ?ran5
  case yan5 =>
    intro w
    go_simp
    first | done | with_reducible rfl
  (try simp only [Act.put, List.setIfInBounds_toArray, List.set_cons_zero, List.set_cons_succ, List.nil_append, List.cons_append, Nat.reduceAdd])
  refine chn_is (stp_pure (by rfl) ?yan6) ?ran6
  case yan6 =>
    intro w
    go_simp
    first | done | with_reducible rfl
  (try simp only [Act.put, List.setIfInBounds_toArray, List.set_cons_zero, List.set_cons_succ, List.nil_append, List.cons_append, Nat.reduceAdd])
  refine chn_is (stp_pure (by rfl) ?yan7) ?ran7
  case yan7 =>
    intro w
    go_simp
    first | done | with_reducible rfl
  (try simp only [Act.put, List.setIfInBounds_toArray, List.set_cons_zero, List.set_cons_succ, List.nil_append, List.cons_append, Nat.reduceAdd])
  refine chn_is (stp_pure (by rfl) ?yan8) ?ran8
  case yan8 =>
    intro w
    go_simp
    first | done | with_reducible rfl
  (try simp only [Act.put, List.setIfInBounds_toArray, List.set_cons_zero, List.set_cons_succ, List.nil_append, List.cons_append, Nat.reduceAdd])
  refine chn_is (stp_pure (by rfl) ?yan9) ?ran9
  case yan9 =>
    intro w
    go_simp
    first | done | with_reducible rfl
  (try simp only [Act.put, List.setIfInBounds_toArray, List.set_cons_zero, List.set_cons_succ, List.nil_append, List.cons_append, Nat.reduceAdd])
  refine chn_is (stp_pure (by rfl) ?yan10) ?ran10
  case yan10 =>
    intro w
    go_simp
    first | done | with_reducible rfl
  (try simp only [Act.put, List.setIfInBounds_toArray, List.set_cons_zero, List.set_cons_succ, List.nil_append, List.cons_append, Nat.reduceAdd])
  refine chn_is (stp_pure (by rfl) ?yan11) ?ran11
  case yan11 =>
    intro w
    go_simp
    first | done | with_reducible rfl
  (try simp only [Act.put, List.setIfInBounds_toArray, List.set_cons_zero, List.set_cons_succ, List.nil_append, List.cons_append, Nat.reduceAdd])
  refine chn_kn (stp_take (by rfl) ?yan12) ?ran12
  case yan12 =>
    intro w hbw hd
    have r1 := cell_keep hbw p1 zW
    clear hd
    go_simp
    first | done | with_reducible rfl
  (try simp only [Act.put, List.setIfInBounds_toArray, List.set_cons_zero, List.set_cons_succ, List.nil_append, List.cons_append, Nat.reduceAdd])
  refine chn_is (stp_pure (by rfl) ?yan13) ?ran13
  case yan13 =>
    intro w
    go_simp
    first | done | with_reducible rfl
  (try simp only [Act.put, List.setIfInBounds_toArray, List.set_cons_zero, List.set_cons_succ, List.nil_append, List.cons_append, Nat.reduceAdd])
  refine chn_is (stp_pure (by rfl) ?yan14) ?ran14
  case yan14 =>
    intro w
    go_simp
    first | done | with_reducible rfl
  (try simp only [Act.put, List.setIfInBounds_toArray, List.set_cons_zero, List.set_cons_succ, List.nil_append, List.cons_append, Nat.reduceAdd])
  refine chn_is (stp_pure (by rfl) ?yan15) ?ran15
  case yan15 =>
    intro w
    go_simp
    first | done | with_reducible rfl
  (try simp only [Act.put, List.setIfInBounds_toArray, List.set_cons_zero, List.set_cons_succ, List.nil_append, List.cons_append, Nat.reduceAdd])
  refine chn_is (stp_pure (by rfl) ?yan16) ?ran16
  case yan16 =>
    intro w
    go_simp
    first | done | with_reducible rfl
  (try simp only [Act.put, List.setIfInBounds_toArray, List.set_cons_zero, List.set_cons_succ, List.nil_append, List.cons_append, Nat.reduceAdd])
  refine chn_kn (stp_take (by rfl) ?yan17) ?ran17
  case yan17 =>
    intro w hbw hd
    have r3 := cell_keep hbw p3 zW
    clear hd
    go_simp
    first | done | with_reducible rfl
  (try simp only [Act.put, List.setIfInBounds_toArray, List.set_cons_zero, List.set_cons_succ, List.nil_append, List.cons_append, Nat.reduceAdd])
  refine chn_is (stp_pure (by rfl) ?yan18) ?ran18
  case yan18 =>
    intro w
    go_simp
    first | done | with_reducible rfl
  (try simp only [Act.put, List.setIfInBounds_toArray, List.set_cons_zero, List.set_cons_succ, List.nil_append, List.cons_append, Nat.reduceAdd])
  refine chn_is (stp_pure (by rfl) ?yan19) ?ran19
  case yan19 =>
    intro w
    go_simp
    first | done | with_reducible rfl
  (try simp only [Act.put, List.setIfInBounds_toArray, List.set_cons_zero, List.set_cons_succ, List.nil_append, List.cons_append, Nat.reduceAdd])
  refine chn_end (fun wz lo hi hbz hd hR => ?_)
  have hbb := hb0.trans (hbz.mono hb0.size)
  clear hd hR hb0 hbz hz0 zW kW
  refine late_none ?_
  obtain ⟨x4, rfl⟩ : ∃ x4 : World, x4 = wz := ⟨_, rfl⟩
  clear p0 p1 p3
  have K4 := Lib.hid (K.out.below hbb)
  have k4 := K4.out.blk
  have q0 : x4.cell? ⟨b, 0, none⟩ = some (.slice A1 xs.length c1) := (k4.cell_ 0).trans (by simp)
  have q1 : x4.cell? ⟨b, 1, none⟩ = some (.slice A2 ys.length c2) := (k4.cell_ 1).trans (by simp)
  have q2 : x4.cell? ⟨b, 2, none⟩ = some (.slice A3 rs.length c3) := (k4.cell_ 2).trans (by simp)
  have kl := k4.lt
  have zz := hbb.size
  clear k4 K
  go_wp2_with fail
  refine (Demote_S A1 A2 A3 c1 c2 c3 xs ys rs _ K4.out.mem).mono ?_
  rw [HD.out.1, HD.out.2]
  rintro e x5 ⟨B1, d1, B2, d2, B3, d3, rfl, hm5, hn5, hb5⟩
  dsimp only at hm5 hn5 ⊢
  have HM5 := Lib.hid hm5; have HN5 := Lib.hid hn5; have HB5 := Lib.hid hb5
  have K5 := Lib.hid (K4.out.below hb5)
  have hlt5 := K5.out.blk.lt
  clear hm5 hn5 hb5 q0 q1 q2 K4
  go_wp2_with fail
  obtain ⟨V, hV⟩ : ∃ V, x5.alloc (.cells #[.slice B1 us.length d1, .slice B2 vs.length d2, .slice B3 ss.length d3] 25) = V := ⟨_, rfl⟩
  have hbV : Below x5.heap.size x5 V := by rw [← hV]; exact (Below.refl _ _).alloc (Nat.le_refl _) _
  have KV := K5.out.below hbV
  refine (move_any b A1 A2 A3 B1 B2 B3 c1 c2 c3 d1 d2 d3 xs ys us vs rs ss T F f mv _ (by rw [hV]; exact KV) (by rw [hV]; exact HM5.out.ext hbV) (HN5.out.neB kl us vs ss) hf2.1 hf2.2).mono ?_
  rintro e x6 ⟨rfl, k6, a6⟩
  rw [hV] at a6
  go_wp2_with fail
  go_ret
  refine ⟨rfl, B1, B2, B3, d1, d2, d3, k6, ⟨fun g e => by have := HN5.out.a g e; omega, fun g e => by have := HN5.out.i g e; omega, fun g e => by have := HN5.out.r g e; omega⟩, ?_⟩
  exact (Aside.of_below (hbb.trans ((HB5.out.trans (hbV.mono HB5.out.size)).mono zz))).trans a6
end Go.Proofs.Ytiobbdfkimpfbaa
namespace Go.Proofs.Ytiobbdfkimpfbaa
set_option linter.unusedSimpArgs false
set_option linter.unusedVariables false
open Go.RowKit Go.Maps

set_option maxRecDepth 100000 in
set_option maxHeartbeats 4000000 in
theorem promote_none (b : Nat) (A1 A2 A3 : Option Addr) (c1 c2 c3 : Nat) (xs ys : List Int) (rs : List Bool) (T F : Int) (mv : List Int) (w : World) (h : WK w b A1 A2 A3 c1 c2 c3 xs ys rs T F mv) (h0 : ys.length = 0) :
    Calls Try.prog 67 #[.pointer (some ⟨b, 0, none⟩)] w fun e w' => e = .returned (.bool false) ∧ Below w.heap.size w w' := by
  have hlt := h.blk.lt
  have i0 : ((ys.length : Int) == 0) = true := by simpa using h0
  have K := Lib.hid h
  have q1 : w.cell? ⟨b, 1, none⟩ = some (.slice A2 ys.length c2) := (h.blk.cell_ 1).trans (by simp)
  clear h h0
  go_enter Try.func67, Try.ntmps67
  go_wp2_with fail
  clear q1
  refine wp_region_chain2 [0, 0, 0, 0, 0, 0, 0, 0, 0, 0, 0, 0, 0, 0, 0, 0, 0, 0, 0, 0, 0] [[], [], [], [], [], [], [], [], [], [], [], [], [], [], [], [], [], [], [], [], []] [.is ?fan0, .is ?fan1, .is ?fan2, .is undef, .is undef, .is undef, .is undef, .is undef, .is undef, .is undef, .is undef, .is undef, .is undef, .is undef, .is undef, .is undef, .is undef, .is undef, .is undef, .is undef, .is ?fan20] (by rfl) (by rfl) (by kernel_rfl) (by kernel_rfl) (by kernel_rfl) (by kernel_rfl) (by kernel_rfl) (by kernel_rfl) (lts_is (lts_is (lts_is (lts_is (lts_is (lts_is (lts_is (lts_is (lts_is (lts_is (lts_is (lts_is (lts_is (lts_is (lts_is (lts_is (lts_is (lts_is (lts_is (lts_is (lts_is lts_nil))))))))))))))))))))) (fun W0 hb0 hz0 => ?_)
  rotate_left 4
  rw [show lateIdx [0, 0, 0, 0, 0, 0, 0, 0, 0, 0, 0, 0, 0, 0, 0, 0, 0, 0, 0, 0, 0] = [] from by rfl]
  have kW := K.out.blk.below_ hb0 hlt
  have zW := kW.lt
  refine chn_is (stp_pure (by rfl) ?yan0) ?ran0
  case yan0 =>
    intro w
    go_simp
    first | done | with_reducible rfl
  (try simp only [Act.put, List.setIfInBounds_toArray, List.set_cons_zero, List.set_cons_succ, List.nil_append, List.cons_append, Nat.reduceAdd])
  refine chn_is (stp_pure (by rfl) ?yan1) ?ran1
  case yan1 =>
    intro w
    go_simp
    first | done | with_reducible rfl
  (try simp only [Act.put, List.setIfInBounds_toArray, List.set_cons_zero, List.set_cons_succ, List.nil_append, List.cons_append, Nat.reduceAdd])
  refine chn_is (stp_pure (by rfl) ?yan2) ?ran2
  case yan2 =>
    intro w
    go_simp
    first | done | with_reducible rfl
  (try simp only [Act.put, List.setIfInBounds_toArray, List.set_cons_zero, List.set_cons_succ, List.nil_append, List.cons_append, Nat.reduceAdd])
  refine chn_is (stp_un (by rfl)) ?ran3
  (try simp only [Act.put, List.setIfInBounds_toArray, List.set_cons_zero, List.set_cons_succ, List.nil_append, List.cons_append, Nat.reduceAdd])
  refine chn_is (stp_un (by rfl)) ?ran4
  (try simp only [Act.put, List.setIfInBounds_toArray, List.set_cons_zero, List.set_cons_succ, List.nil_append, List.cons_append, Nat.reduceAdd])
  refine chn_is (stp_un (by rfl)) ?ran5
  (try simp only [Act.put, List.setIfInBounds_toArray, List.set_cons_zero, List.set_cons_succ, List.nil_append, List.cons_append, Nat.reduceAdd])
  refine chn_is (stp_un (by rfl)) ?ran6
  (try simp only [Act.put, List.setIfInBounds_toArray, List.set_cons_zero, List.set_cons_succ, List.nil_append, List.cons_append, Nat.reduceAdd])
  refine chn_is (stp_un (by rfl)) ?ran7
  (try simp only [Act.put, List.setIfInBounds_toArray, List.set_cons_zero, List.set_cons_succ, List.nil_append, List.cons_append, Nat.reduceAdd])
  refine chn_is (stp_un (by rfl)) ?ran8
  (try simp only [Act.put, List.setIfInBounds_toArray, List.set_cons_zero, List.set_cons_succ, List.nil_append, List.cons_append, Nat.reduceAdd])
  refine chn_is (stp_un (by rfl)) ?ran9
  (try simp only [Act.put, List.setIfInBounds_toArray, List.set_cons_zero, List.set_cons_succ, List.nil_append, List.cons_append, Nat.reduceAdd])
  refine chn_is (stp_un (by rfl)) ?ran10
  (try simp only [Act.put, List.setIfInBounds_toArray, List.set_cons_zero, List.set_cons_succ, List.nil_append, List.cons_append, Nat.reduceAdd])
  refine chn_is (stp_un (by rfl)) ?ran11
  (try simp only [Act.put, List.setIfInBounds_toArray, List.set_cons_zero, List.set_cons_succ, List.nil_append, List.cons_append, Nat.reduceAdd])
  refine chn_is (stp_un (by rfl)) ?ran12
  (try simp only [Act.put, List.setIfInBounds_toArray, List.set_cons_zero, List.set_cons_succ, List.nil_append, List.cons_append, Nat.reduceAdd])
  refine chn_is (stp_un (by rfl)) ?ran13
  (try simp only [Act.put, List.setIfInBounds_toArray, List.set_cons_zero, List.set_cons_succ, List.nil_append, List.cons_append, Nat.reduceAdd])
  refine chn_is (stp_un (by rfl)) ?ran14
  (try simp only [Act.put, List.setIfInBounds_toArray, List.set_cons_zero, List.set_cons_succ, List.nil_append, List.cons_append, Nat.reduceAdd])
  refine chn_is (stp_un (by rfl)) ?ran15
  (try simp only [Act.put, List.setIfInBounds_toArray, List.set_cons_zero, List.set_cons_succ, List.nil_append, List.cons_append, Nat.reduceAdd])
  refine chn_is (stp_un (by rfl)) ?ran16
  (try simp only [Act.put, List.setIfInBounds_toArray, List.set_cons_zero, List.set_cons_succ, List.nil_append, List.cons_append, Nat.reduceAdd])
  refine chn_is (stp_un (by rfl)) ?ran17
  (try simp only [Act.put, List.setIfInBounds_toArray, List.set_cons_zero, List.set_cons_succ, List.nil_append, List.cons_append, Nat.reduceAdd])
  refine chn_is (stp_un (by rfl)) ?ran18
  (try simp only [Act.put, List.setIfInBounds_toArray, List.set_cons_zero, List.set_cons_succ, List.nil_append, List.cons_append, Nat.reduceAdd])
  refine chn_is (stp_un (by rfl)) ?ran19
  (try simp only [Act.put, List.setIfInBounds_toArray, List.set_cons_zero, List.set_cons_succ, List.nil_append, List.cons_append, Nat.reduceAdd])
  refine chn_is (stp_pure (by rfl) ?yan20) ?ran20
  case yan20 =>
    intro w
    go_simp
    first | done | with_reducible rfl
  (try simp only [Act.put, List.setIfInBounds_toArray, List.set_cons_zero, List.set_cons_succ, List.nil_append, List.cons_append, Nat.reduceAdd])
  refine chn_end (fun wz lo hi hbz hd hR => ?_)
  have hbb := hb0.trans (hbz.mono hb0.size)
  clear hd hR hb0 hbz hz0 zW kW
  refine late_none ?_
  obtain ⟨x4, rfl⟩ : ∃ x4 : World, x4 = wz := ⟨_, rfl⟩
  go_wp2_with fail
  go_ret
  exact ⟨rfl, hbb⟩

/-- The last inactive frame's bit. -/
def lastB (ys : List Int) (rs : List Bool) : Bool := rs.getD (lastF ys).toNat false
theorem bit_at {w : World} {A : Option Addr} {rs : List Bool} {f : Int} (h : Sl w .bool A rs) (h0 : 0 ≤ f) (h1 : f < rs.length) :
    ∃ b off, A = some ⟨b, off, none⟩ ∧ b < w.heap.size ∧ w.cell? ⟨b, off + f.toNat, none⟩ = some (.bool (rs.getD f.toNat false)) := by
  obtain ⟨b, off, x, rfl, hb, hx, hc⟩ := h.at_ (k := f.toNat) (by omega)
  exact ⟨b, off, rfl, hb, by rw [List.getD_eq_getElem?_getD, hx]; exact hc⟩
theorem last_at {w : World} {A : Option Addr} {ys : List Int} (h : Sl w (.int .i64) A ys) (h0 : 0 < ys.length) :
    ∃ b off, A = some ⟨b, off, none⟩ ∧ b < w.heap.size ∧ w.cell? ⟨b, off + (ys.length - 1), none⟩ = some (.int .i64 (lastF ys)) := by
  obtain ⟨b, off, x, rfl, hb, hx, hc⟩ := h.at_ (k := ys.length - 1) (by omega)
  exact ⟨b, off, rfl, hb, by unfold lastF; rw [List.getD_eq_getElem?_getD, hx]; exact hc⟩

set_option maxRecDepth 100000 in
set_option maxHeartbeats 4000000 in
theorem promote_no (b : Nat) (A1 A2 A3 : Option Addr) (c1 c2 c3 : Nat) (xs ys : List Int) (rs : List Bool) (T F : Int) (mv : List Int) (w : World) (h : WK w b A1 A2 A3 c1 c2 c3 xs ys rs T F mv) (hc : lruChk xs ys rs = 0) (h0 : 0 < ys.length) (hb : lastB ys rs = false) :
    Calls Try.prog 67 #[.pointer (some ⟨b, 0, none⟩)] w fun e w' => e = .returned (.bool false) ∧ Below w.heap.size w w' := by
  have hlt := h.blk.lt
  have hv := valid_of_chk hc
  have hll : ys.length ≤ 256 := by have := hv.len; have := hv.hi; omega
  have i0 : ((ys.length : Int) == 0) = false := by rw [beq_eq_false_iff_ne]; omega
  have q1 : w.cell? ⟨b, 1, none⟩ = some (.slice A2 ys.length c2) := (h.blk.cell_ 1).trans (by simp)
  have K := Lib.hid h
  obtain ⟨f, hf⟩ : ∃ f, lastF ys = f := ⟨_, rfl⟩
  have hin := hv.range (lastF ys) (by simp [lastF_mem h0])
  have hf2 := hv.hi
  rw [hf] at hin
  obtain ⟨bL, oL, rfl, hbL, hcL⟩ := last_at h.mem.i h0
  rw [hf] at hcL
  obtain ⟨bR, oR, rfl, hbR, hcR⟩ := bit_at h.mem.r hin.1 hin.2
  unfold lastB at hb
  rw [hf] at hb
  obtain ⟨G, rfl⟩ : ∃ G : Nat, f = G := ⟨f.toNat, by omega⟩
  rw [Int.toNat_natCast] at hcR hb
  have hG : (G : Int) < rs.length := hin.2
  have hG2 : rs.length ≤ 256 := hf2
  clear hf2
  rw [hb] at hcR
  clear h hc hb hv hin hf
  obtain ⟨n, hn⟩ : ∃ n : Nat, ys.length = n + 1 := ⟨ys.length - 1, by omega⟩
  rw [hn] at hcL hll q1 i0
  have HNN := Lib.hid hn
  have hwn : IntKind.i64.wrap (n : Int) = n := by rw [IntKind.wrap_i64]; omega
  have hwg : IntKind.i64.wrap (G : Int) = G := by rw [IntKind.wrap_i64]; omega
  have hnn : (n : Int) < n + 1 := by omega
  clear hn h0
  rw [show n + 1 - 1 = n by omega] at hcL
  go_enter Try.func67, Try.ntmps67
  go_wp2_with fail
  clear q1
  refine wp_region_chain2 [0, 0, 0, 0, 0, 0, 0, 1, 0, 0, 0, 0, 1, 0, 0, 0, 1, 0, 1, 0, 0] [[], [], [], [], [], [], [], [], [], [], [], [], [], [], [], [], [], [], [], [], []] [.is ?fan0, .is ?fan1, .is ?fan2, .is ?fan3, .is ?fan4, .is ?fan5, .is ?fan6, .kn ?fan7, .is ?fan8, .is ?fan9, .is ?fan10, .is ?fan11, .kn ?fan12, .is ?fan13, .is ?fan14, .is ?fan15, .kn ?fan16, .is ?fan17, .kn ?fan18, .is ?fan19, .is ?fan20] (by rfl) (by rfl) (by kernel_rfl) (by kernel_rfl) (by kernel_rfl) (by kernel_rfl) (by kernel_rfl) (by kernel_rfl) (lts_is (lts_is (lts_is (lts_is (lts_is (lts_is (lts_is (lts_kn (lts_is (lts_is (lts_is (lts_is (lts_kn (lts_is (lts_is (lts_is (lts_kn (lts_is (lts_kn (lts_is (lts_is lts_nil))))))))))))))))))))) (fun W0 hb0 hz0 => ?_)
  rotate_left 21
  rw [show lateIdx [0, 0, 0, 0, 0, 0, 0, 1, 0, 0, 0, 0, 1, 0, 0, 0, 1, 0, 1, 0, 0] = [] from by rfl]
  have kW := K.out.blk.below_ hb0 hlt
  have zW := kW.lt
  have p1 : W0.cell? ⟨b, 1, none⟩ = some (.slice (some ⟨bL, oL, none⟩) (n + 1) c2) := (kW.cell_ 1).trans (by simp [HNN.out])
  have p2 : W0.cell? ⟨b, 2, none⟩ = some (.slice (some ⟨bR, oR, none⟩) rs.length c3) := (kW.cell_ 2).trans (by simp)
  have pL := cell_keep hb0 hcL hbL
  have pR := cell_keep hb0 hcR hbR
  have zL := Nat.lt_of_lt_of_le hbL hb0.size
  have zR := Nat.lt_of_lt_of_le hbR hb0.size
  refine chn_is (stp_pure (by rfl) ?yan0) ?ran0
  case yan0 =>
    intro w
    go_simp
    first | done | with_reducible rfl
  (try simp only [Act.put, List.setIfInBounds_toArray, List.set_cons_zero, List.set_cons_succ, List.nil_append, List.cons_append, Nat.reduceAdd])
  refine chn_is (stp_pure (by rfl) ?yan1) ?ran1
  case yan1 =>
    intro w
    go_simp
    first | done | with_reducible rfl
  (try simp only [Act.put, List.setIfInBounds_toArray, List.set_cons_zero, List.set_cons_succ, List.nil_append, List.cons_append, Nat.reduceAdd])
  refine chn_is (stp_pure (by rfl) ?yan2) ?ran2
  case yan2 =>
    intro w
    go_simp
    first | done | with_reducible rfl
  (try simp only [Act.put, List.setIfInBounds_toArray, List.set_cons_zero, List.set_cons_succ, List.nil_append, List.cons_append, Nat.reduceAdd])
  refine chn_is (stp_pure (by rfl) ?yan3) ?ran3
  case yan3 =>
    intro w
    go_simp
    first | done | with_reducible rfl
  (try simp only [Act.put, List.setIfInBounds_toArray, List.set_cons_zero, List.set_cons_succ, List.nil_append, List.cons_append, Nat.reduceAdd])
  refine chn_is (stp_pure (by rfl) ?yan4) ?ran4
  case yan4 =>
    intro w
    go_simp
    first | done | with_reducible rfl
  (try simp only [Act.put, List.setIfInBounds_toArray, List.set_cons_zero, List.set_cons_succ, List.nil_append, List.cons_append, Nat.reduceAdd])
  refine chn_is (stp_pure (by rfl) ?yan5) ?ran5
  case yan5 =>
    intro w
    go_simp
    first | done | with_reducible rfl
  (try simp only [Act.put, List.setIfInBounds_toArray, List.set_cons_zero, List.set_cons_succ, List.nil_append, List.cons_append, Nat.reduceAdd])
  refine chn_is (stp_pure (by rfl) ?yan6) ?ran6
  case yan6 =>
    intro w
    go_simp
    first | done | with_reducible rfl
  (try simp only [Act.put, List.setIfInBounds_toArray, List.set_cons_zero, List.set_cons_succ, List.nil_append, List.cons_append, Nat.reduceAdd])
  refine chn_kn (stp_take (by rfl) ?yan7) ?ran7
  case yan7 =>
    intro w hbw hd
    have r2 := cell_keep hbw p2 zW
    clear hd
    go_simp
    first | done | with_reducible rfl
  (try simp only [Act.put, List.setIfInBounds_toArray, List.set_cons_zero, List.set_cons_succ, List.nil_append, List.cons_append, Nat.reduceAdd])
  refine chn_is (stp_pure (by rfl) ?yan8) ?ran8
  case yan8 =>
    intro w
    go_simp
    first | done | with_reducible rfl
  (try simp only [Act.put, List.setIfInBounds_toArray, List.set_cons_zero, List.set_cons_succ, List.nil_append, List.cons_append, Nat.reduceAdd])
  refine chn_is (stp_pure (by rfl) ?yan9) ?ran9
  case yan9 =>
    intro w
    go_simp
    first | done | with_reducible rfl
  (try simp only [Act.put, List.setIfInBounds_toArray, List.set_cons_zero, List.set_cons_succ, List.nil_append, List.cons_append, Nat.reduceAdd])
  refine chn_is (stp_pure (by rfl) ?yan10) ?ran10
  case yan10 =>
    intro w
    go_simp
    first | done | with_reducible rfl
  (try simp only [Act.put, List.setIfInBounds_toArray, List.set_cons_zero, List.set_cons_succ, List.nil_append, List.cons_append, Nat.reduceAdd])
  refine chn_is (stp_pure (by rfl) ?yan11) ?ran11
  case yan11 =>
    intro w
    go_simp
    first | done | with_reducible rfl
  (try simp only [Act.put, List.setIfInBounds_toArray, List.set_cons_zero, List.set_cons_succ, List.nil_append, List.cons_append, Nat.reduceAdd])
  refine chn_kn (stp_take (by rfl) ?yan12) ?ran12
  case yan12 =>
    intro w hbw hd
    have r1 := cell_keep hbw p1 zW
    clear hd
    go_simp
    first | done | with_reducible rfl
  (try simp only [Act.put, List.setIfInBounds_toArray, List.set_cons_zero, List.set_cons_succ, List.nil_append, List.cons_append, Nat.reduceAdd])
  refine chn_is (stp_pure (by rfl) ?yan13) ?ran13
  case yan13 =>
    intro w
    go_simp
    first | done | with_reducible rfl
  (try simp only [Act.put, List.setIfInBounds_toArray, List.set_cons_zero, List.set_cons_succ, List.nil_append, List.cons_append, Nat.reduceAdd])
  refine chn_is (stp_pure (by rfl) ?yan14) ?ran14
  case yan14 =>
    intro w
    go_simp
    first | done | with_reducible rfl
  (try simp only [Act.put, List.setIfInBounds_toArray, List.set_cons_zero, List.set_cons_succ, List.nil_append, List.cons_append, Nat.reduceAdd])
  refine chn_is (stp_pure (by rfl) ?yan15) ?ran15
  case yan15 =>
    intro w
    go_simp
    first | done | with_reducible rfl
  (try simp only [Act.put, List.setIfInBounds_toArray, List.set_cons_zero, List.set_cons_succ, List.nil_append, List.cons_append, Nat.reduceAdd])
  refine chn_kn (stp_take (by rfl) ?yan16) ?ran16
  case yan16 =>
    intro w hbw hd
    have r9 := cell_keep hbw pL zL
    clear hd
    go_simp
    first | done | with_reducible rfl
  (try simp only [Act.put, List.setIfInBounds_toArray, List.set_cons_zero, List.set_cons_succ, List.nil_append, List.cons_append, Nat.reduceAdd])
  refine chn_is (stp_pure (by rfl) ?yan17) ?ran17
  case yan17 =>
    intro w
    go_simp
    first | done | with_reducible rfl
  (try simp only [Act.put, List.setIfInBounds_toArray, List.set_cons_zero, List.set_cons_succ, List.nil_append, List.cons_append, Nat.reduceAdd])
  refine chn_kn (stp_take (by rfl) ?yan18) ?ran18
  case yan18 =>
    intro w hbw hd
    have r9 := cell_keep hbw pR zR
    clear hd
    go_simp
    first | done | with_reducible rfl
  (try simp only [Act.put, List.setIfInBounds_toArray, List.set_cons_zero, List.set_cons_succ, List.nil_append, List.cons_append, Nat.reduceAdd])
  refine chn_is (stp_pure (by rfl) ?yan19) ?ran19
  case yan19 =>
    intro w
    go_simp
    first | done | with_reducible rfl
  (try simp only [Act.put, List.setIfInBounds_toArray, List.set_cons_zero, List.set_cons_succ, List.nil_append, List.cons_append, Nat.reduceAdd])
  refine chn_is (stp_pure (by rfl) ?yan20) ?ran20
  case yan20 =>
    intro w
    go_simp
    first | done | with_reducible rfl
  (try simp only [Act.put, List.setIfInBounds_toArray, List.set_cons_zero, List.set_cons_succ, List.nil_append, List.cons_append, Nat.reduceAdd])
  refine chn_end (fun wz lo hi hbz hd hR => ?_)
  have hbb := hb0.trans (hbz.mono hb0.size)
  clear hd hR hb0 hbz hz0 zW kW
  refine late_none ?_
  obtain ⟨x4, rfl⟩ : ∃ x4 : World, x4 = wz := ⟨_, rfl⟩
  clear p1 p2 pL pR zL zR
  go_wp2_with fail
  go_ret
  exact ⟨rfl, hbb⟩

set_option maxRecDepth 100000 in
set_option maxHeartbeats 4000000 in
theorem promote_yes (b : Nat) (A1 A2 A3 : Option Addr) (c1 c2 c3 : Nat) (xs ys : List Int) (rs : List Bool) (T F : Int) (mv : List Int) (w : World) (h : WK w b A1 A2 A3 c1 c2 c3 xs ys rs T F mv) (hc : lruChk xs ys rs = 0) (h0 : 0 < ys.length) (hb : lastB ys rs = true) :
    Calls Try.prog 67 #[.pointer (some ⟨b, 0, none⟩)] w (MvPost b (pX xs ys) (pY xs ys) (rs.set (lastF ys).toNat false) T (lastF ys) mv w) := by
  have hlt := h.blk.lt
  have hv := valid_of_chk hc
  have HD : Hid (proS xs ys rs = ⟨pX xs ys, pY xs ys, rs.set (lastF ys).toNat false, 0⟩ ∧ proF xs ys rs = lastF ys) := by
    refine ⟨?_, ?_⟩
    · unfold proS; rw [if_neg (by simpa using hc), if_neg (by omega)]
    · unfold proF; rw [if_neg (by simpa using hc), if_neg (by omega)]
  have hll : ys.length ≤ 256 := by have := hv.len; have := hv.hi; omega
  have i0 : ((ys.length : Int) == 0) = false := by rw [beq_eq_false_iff_ne]; omega
  have q1 : w.cell? ⟨b, 1, none⟩ = some (.slice A2 ys.length c2) := (h.blk.cell_ 1).trans (by simp)
  have K := Lib.hid h
  obtain ⟨f, hf⟩ : ∃ f, lastF ys = f := ⟨_, rfl⟩
  have hin := hv.range (lastF ys) (by simp [lastF_mem h0])
  have hf2 := hv.hi
  rw [hf] at hin
  obtain ⟨bL, oL, rfl, hbL, hcL⟩ := last_at h.mem.i h0
  rw [hf] at hcL
  obtain ⟨bR, oR, rfl, hbR, hcR⟩ := bit_at h.mem.r hin.1 hin.2
  unfold lastB at hb
  rw [hf] at hb
  obtain ⟨G, rfl⟩ : ∃ G : Nat, f = G := ⟨f.toNat, by omega⟩
  rw [Int.toNat_natCast] at hcR hb
  have hG : (G : Int) < rs.length := hin.2
  have hG2 : rs.length ≤ 256 := hf2
  clear hf2
  rw [hb] at hcR
  rw [hf] at HD
  rw [hf]
  have hf3 : 0 ≤ (G : Int) ∧ (G : Int) < 256 := by omega
  clear h hc hb hv hin hf
  obtain ⟨us, hus⟩ : ∃ l, pX xs ys = l := ⟨_, rfl⟩
  obtain ⟨vs, hvs⟩ : ∃ l, pY xs ys = l := ⟨_, rfl⟩
  obtain ⟨ss, hss⟩ : ∃ l, rs.set (G : Int).toNat false = l := ⟨_, rfl⟩
  rw [hus, hvs, hss] at HD
  rw [hus, hvs, hss]
  clear hus hvs hss
  obtain ⟨n, hn⟩ : ∃ n : Nat, ys.length = n + 1 := ⟨ys.length - 1, by omega⟩
  rw [hn] at hcL hll q1 i0
  have HNN := Lib.hid hn
  have hwn : IntKind.i64.wrap (n : Int) = n := by rw [IntKind.wrap_i64]; omega
  have hwg : IntKind.i64.wrap (G : Int) = G := by rw [IntKind.wrap_i64]; omega
  have hnn : (n : Int) < n + 1 := by omega
  clear hn h0
  rw [show n + 1 - 1 = n by omega] at hcL
  go_enter Try.func67, Try.ntmps67
  go_wp2_with fail
  clear q1
  refine wp_region_chain2 [0, 0, 0, 0, 0, 0, 0, 1, 0, 0, 0, 0, 1, 0, 0, 0, 1, 0, 1, 0, 0] [[], [], [], [], [], [], [], [], [], [], [], [], [], [], [], [], [], [], [], [], []] [.is ?fan0, .is ?fan1, .is ?fan2, .is ?fan3, .is ?fan4, .is ?fan5, .is ?fan6, .kn ?fan7, .is ?fan8, .is ?fan9, .is ?fan10, .is ?fan11, .kn ?fan12, .is ?fan13, .is ?fan14, .is ?fan15, .kn ?fan16, .is ?fan17, .kn ?fan18, .is ?fan19, .is ?fan20] (by rfl) (by rfl) (by kernel_rfl) (by kernel_rfl) (by kernel_rfl) (by kernel_rfl) (by kernel_rfl) (by kernel_rfl) (lts_is (lts_is (lts_is (lts_is (lts_is (lts_is (lts_is (lts_kn (lts_is (lts_is (lts_is (lts_is (lts_kn (lts_is (lts_is (lts_is (lts_kn (lts_is (lts_kn (lts_is (lts_is lts_nil))))))))))))))))))))) (fun W0 hb0 hz0 => ?_)
  rotate_left 21
  rw [show lateIdx [0, 0, 0, 0, 0, 0, 0, 1, 0, 0, 0, 0, 1, 0, 0, 0, 1, 0, 1, 0, 0] = [] from by rfl]
  have kW := K.out.blk.below_ hb0 hlt
  have zW := kW.lt
  have p1 : W0.cell? ⟨b, 1, none⟩ = some (.slice (some ⟨bL, oL, none⟩) (n + 1) c2) := (kW.cell_ 1).trans (by simp [HNN.out])
  have p2 : W0.cell? ⟨b, 2, none⟩ = some (.slice (some ⟨bR, oR, none⟩) rs.length c3) := (kW.cell_ 2).trans (by simp)
  have pL := cell_keep hb0 hcL hbL
  have pR := cell_keep hb0 hcR hbR
  have zL := Nat.lt_of_lt_of_le hbL hb0.size
  have zR := Nat.lt_of_lt_of_le hbR hb0.size
  refine chn_is (stp_pure (by rfl) ?yan0) ?ran0
  case yan0 =>
    intro w
    go_simp
    first | done | with_reducible rfl
  (try simp only [Act.put, List.setIfInBounds_toArray, List.set_cons_zero, List.set_cons_succ, List.nil_append, List.cons_append, Nat.reduceAdd])
  refine chn_is (stp_pure (by rfl) ?yan1) ?ran1
  case yan1 =>
    intro w
    go_simp
    first | done | with_reducible rfl
  (try simp only [Act.put, List.setIfInBounds_toArray, List.set_cons_zero, List.set_cons_succ, List.nil_append, List.cons_append, Nat.reduceAdd])
  refine chn_is (stp_pure (by rfl) ?yan2) ?ran2
  case yan2 =>
    intro w
    go_simp
    first | done | with_reducible rfl
  (try simp only [Act.put, List.setIfInBounds_toArray, List.set_cons_zero, List.set_cons_succ, List.nil_append, List.cons_append, Nat.reduceAdd])
  refine chn_is (stp_pure (by rfl) ?yan3) ?ran3
  case yan3 =>
    intro w
    go_simp
    first | done | with_reducible rfl
  (try simp only [Act.put, List.setIfInBounds_toArray, List.set_cons_zero, List.set_cons_succ, List.nil_append, List.cons_append, Nat.reduceAdd])
  refine chn_is (stp_pure (by rfl) ?yan4) ?ran4
  case yan4 =>
    intro w
    go_simp
    first | done | with_reducible rfl
  (try simp only [Act.put, List.setIfInBounds_toArray, List.set_cons_zero, List.set_cons_succ, List.nil_append, List.cons_append, Nat.reduceAdd])
  refine chn_is (stp_pure (by rfl) ?yan5) ?ran5
  case yan5 =>
    intro w
    go_simp
    first | done | with_reducible rfl
  (try simp only [Act.put, List.setIfInBounds_toArray, List.set_cons_zero, List.set_cons_succ, List.nil_append, List.cons_append, Nat.reduceAdd])
  refine chn_is (stp_pure (by rfl) ?yan6) ?ran6
  case yan6 =>
    intro w
    go_simp
    first | done | with_reducible rfl
  (try simp only [Act.put, List.setIfInBounds_toArray, List.set_cons_zero, List.set_cons_succ, List.nil_append, List.cons_append, Nat.reduceAdd])
  refine chn_kn (stp_take (by rfl) ?yan7) ?ran7
  case yan7 =>
    intro w hbw hd
    have r2 := cell_keep hbw p2 zW
    clear hd
    go_simp
    first | done | with_reducible rfl
  (try simp only [Act.put, List.setIfInBounds_toArray, List.set_cons_zero, List.set_cons_succ, List.nil_append, List.cons_append, Nat.reduceAdd])
  refine chn_is (stp_pure (by rfl) ?yan8) ?ran8
  case yan8 =>
    intro w
    go_simp
    first | done | with_reducible rfl
  (try simp only [Act.put, List.setIfInBounds_toArray, List.set_cons_zero, List.set_cons_succ, List.nil_append, List.cons_append, Nat.reduceAdd])
  refine chn_is (stp_pure (by rfl) ?yan9) ?ran9
  case yan9 =>
    intro w
    go_simp
    first | done | with_reducible rfl
  (try simp only [Act.put, List.setIfInBounds_toArray, List.set_cons_zero, List.set_cons_succ, List.nil_append, List.cons_append, Nat.reduceAdd])
  refine chn_is (stp_pure (by rfl) ?yan10) ?ran10
  case yan10 =>
    intro w
    go_simp
    first | done | with_reducible rfl
  (try simp only [Act.put, List.setIfInBounds_toArray, List.set_cons_zero, List.set_cons_succ, List.nil_append, List.cons_append, Nat.reduceAdd])
  refine chn_is (stp_pure (by rfl) ?yan11) ?ran11
  case yan11 =>
    intro w
    go_simp
    first | done | with_reducible rfl
  (try simp only [Act.put, List.setIfInBounds_toArray, List.set_cons_zero, List.set_cons_succ, List.nil_append, List.cons_append, Nat.reduceAdd])
  refine chn_kn (stp_take (by rfl) ?yan12) ?ran12
  case yan12 =>
    intro w hbw hd
    have r1 := cell_keep hbw p1 zW
    clear hd
    go_simp
    first | done | with_reducible rfl
  (try simp only [Act.put, List.setIfInBounds_toArray, List.set_cons_zero, List.set_cons_succ, List.nil_append, List.cons_append, Nat.reduceAdd])
  refine chn_is (stp_pure (by rfl) ?yan13) ?ran13
  case yan13 =>
    intro w
    go_simp
    first | done | with_reducible rfl
  (try simp only [Act.put, List.setIfInBounds_toArray, List.set_cons_zero, List.set_cons_succ, List.nil_append, List.cons_append, Nat.reduceAdd])
  refine chn_is (stp_pure (by rfl) ?yan14) ?ran14
  case yan14 =>
    intro w
    go_simp
    first | done | with_reducible rfl
  (try simp only [Act.put, List.setIfInBounds_toArray, List.set_cons_zero, List.set_cons_succ, List.nil_append, List.cons_append, Nat.reduceAdd])
  refine chn_is (stp_pure (by rfl) ?yan15) ?ran15
  case yan15 =>
    intro w
    go_simp
    first | done | with_reducible rfl
  (try simp only [Act.put, List.setIfInBounds_toArray, List.set_cons_zero, List.set_cons_succ, List.nil_append, List.cons_append, Nat.reduceAdd])
  refine chn_kn (stp_take (by rfl) ?yan16) ?ran16
  case yan16 =>
    intro w hbw hd
    have r9 := cell_keep hbw pL zL
    clear hd
    go_simp
    first | done | with_reducible rfl
  (try simp only [Act.put, List.setIfInBounds_toArray, List.set_cons_zero, List.set_cons_succ, List.nil_append, List.cons_append, Nat.reduceAdd])
  refine chn_is (stp_pure (by rfl) ?yan17) ?ran17
  case yan17 =>
    intro w
    go_simp
    first | done | with_reducible rfl
  (try simp only [Act.put, List.setIfInBounds_toArray, List.set_cons_zero, List.set_cons_succ, List.nil_append, List.cons_append, Nat.reduceAdd])
  refine chn_kn (stp_take (by rfl) ?yan18) ?ran18
  case yan18 =>
    intro w hbw hd
    have r9 := cell_keep hbw pR zR
    clear hd
    go_simp
    first | done | with_reducible rfl
  (try simp only [Act.put, List.setIfInBounds_toArray, List.set_cons_zero, List.set_cons_succ, List.nil_append, List.cons_append, Nat.reduceAdd])
  refine chn_is (stp_pure (by rfl) ?yan19) ?ran19
  case yan19 =>
    intro w
    go_simp
    first | done | with_reducible rfl
  (try simp only [Act.put, List.setIfInBounds_toArray, List.set_cons_zero, List.set_cons_succ, List.nil_append, List.cons_append, Nat.reduceAdd])
  refine chn_is (stp_pure (by rfl) ?yan20) ?ran20
  case yan20 =>
    intro w
    go_simp
    first | done | with_reducible rfl
  (try simp only [Act.put, List.setIfInBounds_toArray, List.set_cons_zero, List.set_cons_succ, List.nil_append, List.cons_append, Nat.reduceAdd])
  refine chn_end (fun wz lo hi hbz hd hR => ?_)
  have hbb := hb0.trans (hbz.mono hb0.size)
  clear hd hR hb0 hbz hz0 zW kW
  refine late_none ?_
  obtain ⟨x4, rfl⟩ : ∃ x4 : World, x4 = wz := ⟨_, rfl⟩
  clear p1 p2 pL pR zL zR
  have K4 := Lib.hid (K.out.below hbb)
  have k4 := K4.out.blk
  have q0 : x4.cell? ⟨b, 0, none⟩ = some (.slice A1 xs.length c1) := (k4.cell_ 0).trans (by simp)
  have q1 : x4.cell? ⟨b, 1, none⟩ = some (.slice (some ⟨bL, oL, none⟩) ys.length c2) := (k4.cell_ 1).trans (by simp)
  have q2 : x4.cell? ⟨b, 2, none⟩ = some (.slice (some ⟨bR, oR, none⟩) rs.length c3) := (k4.cell_ 2).trans (by simp)
  have kl := k4.lt
  have zz := hbb.size
  clear k4 K hcL hcR hbL hbR hwn hwg hnn
  go_wp2_with fail
  refine (Promote_S A1 (some ⟨bL, oL, none⟩) (some ⟨bR, oR, none⟩) c1 c2 c3 xs ys rs _ K4.out.mem).mono ?_
  rw [HD.out.1, HD.out.2]
  rintro e x5 ⟨B1, d1, B2, d2, B3, d3, rfl, hm5, hn5, hb5⟩
  dsimp only at hm5 hn5 ⊢
  have HM5 := Lib.hid hm5; have HN5 := Lib.hid hn5; have HB5 := Lib.hid hb5
  have K5 := Lib.hid (K4.out.below hb5)
  have hlt5 := K5.out.blk.lt
  clear hm5 hn5 hb5 q0 q1 q2 K4
  go_wp2_with fail
  obtain ⟨V, hV⟩ : ∃ V, x5.alloc (.cells #[.slice B1 us.length d1, .slice B2 vs.length d2, .slice B3 ss.length d3] 25) = V := ⟨_, rfl⟩
  have hbV : Below x5.heap.size x5 V := by rw [← hV]; exact (Below.refl _ _).alloc (Nat.le_refl _) _
  have KV := K5.out.below hbV
  refine (move_any b A1 (some ⟨bL, oL, none⟩) (some ⟨bR, oR, none⟩) B1 B2 B3 c1 c2 c3 d1 d2 d3 xs ys us vs rs ss T F G mv _ (by rw [hV]; exact KV) (by rw [hV]; exact HM5.out.ext hbV) (HN5.out.neB kl us vs ss) hf3.1 hf3.2).mono ?_
  rintro e x6 ⟨rfl, k6, a6⟩
  rw [hV] at a6
  go_wp2_with fail
  go_ret
  refine ⟨rfl, B1, B2, B3, d1, d2, d3, k6, ⟨fun g e => by have := HN5.out.a g e; omega, fun g e => by have := HN5.out.i g e; omega, fun g e => by have := HN5.out.r g e; omega⟩, ?_⟩
  exact (Aside.of_below (hbb.trans ((HB5.out.trans (hbV.mono HB5.out.size)).mono zz))).trans a6

set_option maxRecDepth 100000 in
set_option maxHeartbeats 4000000 in
theorem find_none (b : Nat) (A1 A2 A3 : Option Addr) (c1 c2 c3 : Nat) (xs ys : List Int) (rs : List Bool) (T F : Int) (mv : List Int) (w : World) (h : WK w b A1 A2 A3 c1 c2 c3 xs ys rs T F mv) (h0 : ys.length = 0) :
    Calls Try.prog 68 #[.pointer (some ⟨b, 0, none⟩)] w fun e w' => e = .returned (.bool false) ∧ Below w.heap.size w w' := by
  have hlt := h.blk.lt
  have i0 : ((ys.length : Int) == 0) = true := by simpa using h0
  have q1 : w.cell? ⟨b, 1, none⟩ = some (.slice A2 ys.length c2) := (h.blk.cell_ 1).trans (by simp)
  clear h h0
  go_enter Try.func68, Try.ntmps68
  go_wp2_with fail
  go_ret
  exact ⟨rfl, Below.refl _ _⟩

set_option maxRecDepth 100000 in
set_option maxHeartbeats 4000000 in
theorem find_yes (b : Nat) (A1 A2 A3 : Option Addr) (c1 c2 c3 : Nat) (xs ys : List Int) (rs : List Bool) (T F : Int) (mv : List Int) (w : World) (h : WK w b A1 A2 A3 c1 c2 c3 xs ys rs T F mv) (h0 : 0 < ys.length) :
    Calls Try.prog 68 #[.pointer (some ⟨b, 0, none⟩)] w fun e w' => e = .returned (.bool true) ∧ WK w' b A1 A2 A3 c1 c2 c3 xs ys rs T (lastF ys) mv ∧ Aside (fun k => k = b) w w' := by
  have hlt := h.blk.lt
  have hll := h.mem.li
  have i0 : ((ys.length : Int) == 0) = false := by rw [beq_eq_false_iff_ne]; omega
  have q1 : w.cell? ⟨b, 1, none⟩ = some (.slice A2 ys.length c2) := (h.blk.cell_ 1).trans (by simp)
  have q4 : w.cell? ⟨b, 4, none⟩ = some (.int .i64 F) := (h.blk.cell_ 4).trans (by simp)
  have g4 := h.blk.frozen_ 4
  obtain ⟨bL, oL, rfl, hbL, hcL⟩ := last_at h.mem.i h0
  obtain ⟨f, hf⟩ : ∃ f, lastF ys = f := ⟨_, rfl⟩
  rw [hf] at hcL
  rw [hf]
  obtain ⟨n, hn⟩ : ∃ n : Nat, ys.length = n + 1 := ⟨ys.length - 1, by omega⟩
  rw [hn] at hcL hll q1 i0
  have K := Lib.hid h
  clear hn h0 h hf
  rw [show n + 1 - 1 = n by omega] at hcL
  go_enter Try.func68, Try.ntmps68
  go_wp2_with fail
  go_ret
  refine ⟨rfl, ⟨?_, K.out.mem.set_ K.out.ne _ _, K.out.ne⟩, (Aside.refl (fun k => k = b) w).setCell (.inr rfl) _⟩
  simpa using K.out.blk.set_ 4 (.int .i64 f)
end Go.Proofs.Ytiobbdfkimpfbaa
namespace Go.Proofs.Ytiobbdfkimpfbaa
set_option linter.unusedSimpArgs false
set_option linter.unusedVariables false
open Go.RowKit Go.Maps

/-- A background step: what it was, its frame, the lists behind it. -/
def stepS (T : Int) (xs ys : List Int) (rs : List Bool) : Int × Int × List Int × List Int × List Bool :=
  if 0 < xs.length ∧ (ys.length : Int) < T then (1, lastF xs, dX xs ys, dY xs ys, rs.set (lastF xs).toNat false)
  else if ys.length = 0 then (0, -1, xs, ys, rs)
  else if lastB ys rs = true then (2, lastF ys, pX xs ys, pY xs ys, rs.set (lastF ys).toNat false)
  else (3, lastF ys, xs, ys, rs)
/-- The frames that were moved. -/
def mvS (what f : Int) (mv : List Int) : List Int := if what = 1 ∨ what = 2 then f :: mv else mv

theorem demote_no (b : Nat) (A1 A2 A3 : Option Addr) (c1 c2 c3 : Nat) (xs ys : List Int) (rs : List Bool) (T F : Int) (mv : List Int) (w : World) (h : WK w b A1 A2 A3 c1 c2 c3 xs ys rs T F mv) (h0 : ¬ (0 < xs.length ∧ (ys.length : Int) < T)) :
    Calls Try.prog 66 #[.pointer (some ⟨b, 0, none⟩)] w fun e w' => e = .returned (.bool false) ∧ Below w.heap.size w w' := by
  by_cases h1 : xs.length = 0
  · exact demote_none b A1 A2 A3 c1 c2 c3 xs ys rs T F mv w h h1
  · exact demote_full b A1 A2 A3 c1 c2 c3 xs ys rs T F mv w h (by omega) (by omega)
theorem promote_not (b : Nat) (A1 A2 A3 : Option Addr) (c1 c2 c3 : Nat) (xs ys : List Int) (rs : List Bool) (T F : Int) (mv : List Int) (w : World) (h : WK w b A1 A2 A3 c1 c2 c3 xs ys rs T F mv) (hc : lruChk xs ys rs = 0) (h0 : ys.length = 0 ∨ lastB ys rs = false) :
    Calls Try.prog 67 #[.pointer (some ⟨b, 0, none⟩)] w fun e w' => e = .returned (.bool false) ∧ Below w.heap.size w w' := by
  by_cases h1 : ys.length = 0
  · exact promote_none b A1 A2 A3 c1 c2 c3 xs ys rs T F mv w h h1
  · exact promote_no b A1 A2 A3 c1 c2 c3 xs ys rs T F mv w h hc (by omega) (h0.resolve_left h1)

theorem sidx0 (x y z : Value) (w : World) : (Instr.index 94 (.agg #[x, y, z]) (.int .i64 0)).run Try.prog w = .ok x w := by kernel_rfl
theorem sidx1 (x y z : Value) (w : World) : (Instr.index 94 (.agg #[x, y, z]) (.int .i64 1)).run Try.prog w = .ok y w := by kernel_rfl
theorem sidx2 (x y z : Value) (w : World) : (Instr.index 94 (.agg #[x, y, z]) (.int .i64 2)).run Try.prog w = .ok z w := by kernel_rfl

/-- What a step leaves. -/
def StPost (b : Nat) (A1 A2 A3 : Option Addr) (T : Int) (mv : List Int) (R : Int × Int × List Int × List Int × List Bool) (w : World) (e : Ending) (w' : World) : Prop :=
  e = .returned (.int .i64 R.1) ∧ ∃ B1 B2 B3 d1 d2 d3, WK w' b B1 B2 B3 d1 d2 d3 R.2.2.1 R.2.2.2.1 R.2.2.2.2 T R.2.1 (mvS R.1 R.2.1 mv) ∧ ((B1 = A1 ∧ B2 = A2 ∧ B3 = A3 ∧ R.1 ≠ 1 ∧ R.1 ≠ 2) ∨ NewL w.heap.size B1 B2 B3) ∧ Aside (fun k => k = b) w w'

set_option maxRecDepth 100000 in
set_option maxHeartbeats 4000000 in
theorem step_dem (b : Nat) (A1 A2 A3 : Option Addr) (c1 c2 c3 : Nat) (xs ys : List Int) (rs : List Bool) (T F : Int) (mv : List Int) (w : World) (h : WK w b A1 A2 A3 c1 c2 c3 xs ys rs T F mv) (hc : lruChk xs ys rs = 0) (h0 : 0 < xs.length ∧ (ys.length : Int) < T) :
    Calls Try.prog 40 #[.pointer (some ⟨b, 0, none⟩)] w (StPost b A1 A2 A3 T mv (stepS T xs ys rs) w) := by
  have hR : Hid (stepS T xs ys rs = (1, lastF xs, dX xs ys, dY xs ys, rs.set (lastF xs).toNat false)) := by show _ = _; unfold stepS; rw [if_pos h0]
  have H := Lib.hid h
  have hlt := h.blk.lt
  have hw : Below w.heap.size w (w.alloc (.cells #[.func (.func 66) #[.pointer (some ⟨b, 0, none⟩)] #[], .func (.func 67) #[.pointer (some ⟨b, 0, none⟩)] #[], .func (.func 68) #[.pointer (some ⟨b, 0, none⟩)] #[]] 94)) := (Below.refl _ _).alloc (Nat.le_refl _) _
  obtain ⟨V, hV⟩ : ∃ V, w.alloc (.cells #[.func (.func 66) #[.pointer (some ⟨b, 0, none⟩)] #[], .func (.func 67) #[.pointer (some ⟨b, 0, none⟩)] #[], .func (.func 68) #[.pointer (some ⟨b, 0, none⟩)] #[]] 94) = V := ⟨_, rfl⟩
  rw [hV] at hw
  have HW := Lib.hid hw; have HV := Lib.hid hV
  have HK := Lib.hid (h.below hw)
  have i0' := sidx0; have i1' := sidx1; have i2' := sidx2
  rw [hR.out]
  clear h hw hV
  go_enter Try.func40, Try.ntmps40
  go_wp2_with fail
  refine wp_loop_rounds 1 ?_
  rw [rounds_succ]
  go_wp2_with fail
  rw [HV.out]
  refine (demote_yes b A1 A2 A3 c1 c2 c3 xs ys rs T F mv _ HK.out hc h0.1 h0.2).mono ?_
  rintro e x9 ⟨rfl, B1, B2, B3, d1, d2, d3, k9, n9, a9⟩
  go_wp2_with fail
  go_ret
  exact ⟨rfl, B1, B2, B3, d1, d2, d3, k9, .inr ⟨fun g e => Nat.le_trans HW.out.size (n9.a g e), fun g e => Nat.le_trans HW.out.size (n9.i g e), fun g e => Nat.le_trans HW.out.size (n9.r g e)⟩, (Aside.of_below HW.out).trans a9⟩

set_option maxRecDepth 100000 in
set_option maxHeartbeats 4000000 in
theorem step_pro (b : Nat) (A1 A2 A3 : Option Addr) (c1 c2 c3 : Nat) (xs ys : List Int) (rs : List Bool) (T F : Int) (mv : List Int) (w : World) (h : WK w b A1 A2 A3 c1 c2 c3 xs ys rs T F mv) (hc : lruChk xs ys rs = 0) (h0 : ¬ (0 < xs.length ∧ (ys.length : Int) < T)) (h1 : 0 < ys.length) (h2 : lastB ys rs = true) :
    Calls Try.prog 40 #[.pointer (some ⟨b, 0, none⟩)] w (StPost b A1 A2 A3 T mv (stepS T xs ys rs) w) := by
  have hR : Hid (stepS T xs ys rs = (2, lastF ys, pX xs ys, pY xs ys, rs.set (lastF ys).toNat false)) := by show _ = _; unfold stepS; rw [if_neg h0, if_neg (by omega), if_pos h2]
  have H := Lib.hid h
  have hlt := h.blk.lt
  have hw : Below w.heap.size w (w.alloc (.cells #[.func (.func 66) #[.pointer (some ⟨b, 0, none⟩)] #[], .func (.func 67) #[.pointer (some ⟨b, 0, none⟩)] #[], .func (.func 68) #[.pointer (some ⟨b, 0, none⟩)] #[]] 94)) := (Below.refl _ _).alloc (Nat.le_refl _) _
  obtain ⟨V, hV⟩ : ∃ V, w.alloc (.cells #[.func (.func 66) #[.pointer (some ⟨b, 0, none⟩)] #[], .func (.func 67) #[.pointer (some ⟨b, 0, none⟩)] #[], .func (.func 68) #[.pointer (some ⟨b, 0, none⟩)] #[]] 94) = V := ⟨_, rfl⟩
  rw [hV] at hw
  have HW := Lib.hid hw; have HV := Lib.hid hV
  have HK := Lib.hid (h.below hw)
  have i0' := sidx0; have i1' := sidx1; have i2' := sidx2
  rw [hR.out]
  clear h hw hV
  go_enter Try.func40, Try.ntmps40
  go_wp2_with fail
  refine wp_loop_rounds 2 ?_
  rw [rounds_succ]
  go_wp2_with fail
  rw [HV.out]
  refine (demote_no b A1 A2 A3 c1 c2 c3 xs ys rs T F mv _ HK.out h0).mono ?_
  rintro e x1 ⟨rfl, hx1⟩
  have HK1 := Lib.hid (HK.out.below hx1)
  have HW1 := Lib.hid (HW.out.trans (hx1.mono HW.out.size))
  clear hx1 HK HW
  obtain ⟨HK, HW⟩ := And.intro HK1 HW1
  clear HK1 HW1
  go_wp2_with fail
  rw [rounds_succ]
  go_wp2_with fail
  refine (promote_yes b A1 A2 A3 c1 c2 c3 xs ys rs T F mv _ HK.out hc h1 h2).mono ?_
  rintro e x9 ⟨rfl, B1, B2, B3, d1, d2, d3, k9, n9, a9⟩
  go_wp2_with fail
  go_ret
  exact ⟨rfl, B1, B2, B3, d1, d2, d3, k9, .inr ⟨fun g e => Nat.le_trans HW.out.size (n9.a g e), fun g e => Nat.le_trans HW.out.size (n9.i g e), fun g e => Nat.le_trans HW.out.size (n9.r g e)⟩, (Aside.of_below HW.out).trans a9⟩

set_option maxRecDepth 100000 in
set_option maxHeartbeats 4000000 in
theorem step_fnd (b : Nat) (A1 A2 A3 : Option Addr) (c1 c2 c3 : Nat) (xs ys : List Int) (rs : List Bool) (T F : Int) (mv : List Int) (w : World) (h : WK w b A1 A2 A3 c1 c2 c3 xs ys rs T F mv) (hc : lruChk xs ys rs = 0) (h0 : ¬ (0 < xs.length ∧ (ys.length : Int) < T)) (h1 : 0 < ys.length) (h2 : lastB ys rs = false) :
    Calls Try.prog 40 #[.pointer (some ⟨b, 0, none⟩)] w (StPost b A1 A2 A3 T mv (stepS T xs ys rs) w) := by
  have hR : Hid (stepS T xs ys rs = (3, lastF ys, xs, ys, rs)) := by show _ = _; unfold stepS; rw [if_neg h0, if_neg (by omega), if_neg (by rw [h2]; simp)]
  have H := Lib.hid h
  have hlt := h.blk.lt
  have hw : Below w.heap.size w (w.alloc (.cells #[.func (.func 66) #[.pointer (some ⟨b, 0, none⟩)] #[], .func (.func 67) #[.pointer (some ⟨b, 0, none⟩)] #[], .func (.func 68) #[.pointer (some ⟨b, 0, none⟩)] #[]] 94)) := (Below.refl _ _).alloc (Nat.le_refl _) _
  obtain ⟨V, hV⟩ : ∃ V, w.alloc (.cells #[.func (.func 66) #[.pointer (some ⟨b, 0, none⟩)] #[], .func (.func 67) #[.pointer (some ⟨b, 0, none⟩)] #[], .func (.func 68) #[.pointer (some ⟨b, 0, none⟩)] #[]] 94) = V := ⟨_, rfl⟩
  rw [hV] at hw
  have HW := Lib.hid hw; have HV := Lib.hid hV
  have HK := Lib.hid (h.below hw)
  have i0' := sidx0; have i1' := sidx1; have i2' := sidx2
  rw [hR.out]
  clear h hw hV
  go_enter Try.func40, Try.ntmps40
  go_wp2_with fail
  refine wp_loop_rounds 3 ?_
  rw [rounds_succ]
  go_wp2_with fail
  rw [HV.out]
  refine (demote_no b A1 A2 A3 c1 c2 c3 xs ys rs T F mv _ HK.out h0).mono ?_
  rintro e x1 ⟨rfl, hx1⟩
  have HK1 := Lib.hid (HK.out.below hx1)
  have HW1 := Lib.hid (HW.out.trans (hx1.mono HW.out.size))
  clear hx1 HK HW
  obtain ⟨HK, HW⟩ := And.intro HK1 HW1
  clear HK1 HW1
  go_wp2_with fail
  rw [rounds_succ]
  go_wp2_with fail
  refine (promote_not b A1 A2 A3 c1 c2 c3 xs ys rs T F mv _ HK.out hc (.inr h2)).mono ?_
  rintro e x2 ⟨rfl, hx2⟩
  have HK2 := Lib.hid (HK.out.below hx2)
  have HW2 := Lib.hid (HW.out.trans (hx2.mono HW.out.size))
  clear hx2 HK HW
  obtain ⟨HK, HW⟩ := And.intro HK2 HW2
  clear HK2 HW2
  go_wp2_with fail
  rw [rounds_succ]
  go_wp2_with fail
  refine (find_yes b A1 A2 A3 c1 c2 c3 xs ys rs T F mv _ HK.out h1).mono ?_
  rintro e x9 ⟨rfl, k9, a9⟩
  go_wp2_with fail
  go_ret
  exact ⟨rfl, A1, A2, A3, c1, c2, c3, k9, .inl ⟨rfl, rfl, rfl, by simp, by simp⟩, (Aside.of_below HW.out).trans a9⟩

set_option maxRecDepth 100000 in
set_option maxHeartbeats 4000000 in
theorem step_non (b : Nat) (A1 A2 A3 : Option Addr) (c1 c2 c3 : Nat) (xs ys : List Int) (rs : List Bool) (T F : Int) (mv : List Int) (w : World) (h : WK w b A1 A2 A3 c1 c2 c3 xs ys rs T F mv) (hc : lruChk xs ys rs = 0) (h0 : ¬ (0 < xs.length ∧ (ys.length : Int) < T)) (h1 : ys.length = 0) :
    Calls Try.prog 40 #[.pointer (some ⟨b, 0, none⟩)] w (StPost b A1 A2 A3 T mv (stepS T xs ys rs) w) := by
  have hR : Hid (stepS T xs ys rs = (0, -1, xs, ys, rs)) := by show _ = _; unfold stepS; rw [if_neg h0, if_pos h1]
  have H := Lib.hid h
  have hlt := h.blk.lt
  have hw : Below w.heap.size w (w.alloc (.cells #[.func (.func 66) #[.pointer (some ⟨b, 0, none⟩)] #[], .func (.func 67) #[.pointer (some ⟨b, 0, none⟩)] #[], .func (.func 68) #[.pointer (some ⟨b, 0, none⟩)] #[]] 94)) := (Below.refl _ _).alloc (Nat.le_refl _) _
  obtain ⟨V, hV⟩ : ∃ V, w.alloc (.cells #[.func (.func 66) #[.pointer (some ⟨b, 0, none⟩)] #[], .func (.func 67) #[.pointer (some ⟨b, 0, none⟩)] #[], .func (.func 68) #[.pointer (some ⟨b, 0, none⟩)] #[]] 94) = V := ⟨_, rfl⟩
  rw [hV] at hw
  have HW := Lib.hid hw; have HV := Lib.hid hV
  have HK := Lib.hid (h.below hw)
  have i0' := sidx0; have i1' := sidx1; have i2' := sidx2
  rw [hR.out]
  clear h hw hV
  go_enter Try.func40, Try.ntmps40
  go_wp2_with fail
  refine wp_loop_rounds 4 ?_
  rw [rounds_succ]
  go_wp2_with fail
  rw [HV.out]
  refine (demote_no b A1 A2 A3 c1 c2 c3 xs ys rs T F mv _ HK.out h0).mono ?_
  rintro e x1 ⟨rfl, hx1⟩
  have HK1 := Lib.hid (HK.out.below hx1)
  have HW1 := Lib.hid (HW.out.trans (hx1.mono HW.out.size))
  clear hx1 HK HW
  obtain ⟨HK, HW⟩ := And.intro HK1 HW1
  clear HK1 HW1
  go_wp2_with fail
  rw [rounds_succ]
  go_wp2_with fail
  refine (promote_not b A1 A2 A3 c1 c2 c3 xs ys rs T F mv _ HK.out hc (.inl h1)).mono ?_
  rintro e x2 ⟨rfl, hx2⟩
  have HK2 := Lib.hid (HK.out.below hx2)
  have HW2 := Lib.hid (HW.out.trans (hx2.mono HW.out.size))
  clear hx2 HK HW
  obtain ⟨HK, HW⟩ := And.intro HK2 HW2
  clear HK2 HW2
  go_wp2_with fail
  rw [rounds_succ]
  go_wp2_with fail
  refine (find_none b A1 A2 A3 c1 c2 c3 xs ys rs T F mv _ HK.out h1).mono ?_
  rintro e x9 ⟨rfl, hx9⟩
  have HK9 := Lib.hid (HK.out.below hx9)
  have HW9 := Lib.hid (HW.out.trans (hx9.mono HW.out.size))
  have q4 : x9.cell? ⟨b, 4, none⟩ = some (.int .i64 F) := (HK9.out.blk.cell_ 4).trans (by simp)
  have g4 := HK9.out.blk.frozen_ 4
  clear hx9 HK HW
  go_wp2_with fail
  rw [rounds_succ]
  go_wp2_with fail
  go_ret
  refine ⟨rfl, A1, A2, A3, c1, c2, c3, ⟨?_, HK9.out.mem.set_ HK9.out.ne _ _, HK9.out.ne⟩, .inl ⟨rfl, rfl, rfl, by simp, by simp⟩, (Aside.of_below (Z := fun k => k = b) HW9.out).setCell (p := ⟨b, 4, none⟩) (.inr rfl) _⟩
  simpa [mvS] using HK9.out.blk.set_ 4 (.int .i64 (-1))


theorem step_any (b : Nat) (A1 A2 A3 : Option Addr) (c1 c2 c3 : Nat) (xs ys : List Int) (rs : List Bool) (T F : Int) (mv : List Int) (w : World) (h : WK w b A1 A2 A3 c1 c2 c3 xs ys rs T F mv) (hc : lruChk xs ys rs = 0) :
    Calls Try.prog 40 #[.pointer (some ⟨b, 0, none⟩)] w (StPost b A1 A2 A3 T mv (stepS T xs ys rs) w) := by
  by_cases h0 : 0 < xs.length ∧ (ys.length : Int) < T
  · exact step_dem b A1 A2 A3 c1 c2 c3 xs ys rs T F mv w h hc h0
  · by_cases h1 : ys.length = 0
    · exact step_non b A1 A2 A3 c1 c2 c3 xs ys rs T F mv w h hc h0 h1
    · by_cases h2 : lastB ys rs = true
      · exact step_pro b A1 A2 A3 c1 c2 c3 xs ys rs T F mv w h hc h0 (by omega) h2
      · exact step_fnd b A1 A2 A3 c1 c2 c3 xs ys rs T F mv w h hc h0 (by omega) (by simpa using h2)
end Go.Proofs.Ytiobbdfkimpfbaa
namespace Go.Proofs.Ytiobbdfkimpfbaa
set_option linter.unusedSimpArgs false
set_option linter.unusedVariables false
open Go.RowKit Go.Maps

/-- A row of a call's own. -/
def ClF {α : Type} (mk : α → Value) (xs : List α) (v : Value) (lo hi : Nat) (w : World) : Prop := ∃ A c, v = .slice A xs.length c ∧ Sl w mk A xs ∧ ∀ g, A.map (·.block) = some g → lo ≤ g
theorem ClF.lasts {α : Type} (mk : α → Value) (xs : List α) : (Fk.has (ClF mk xs)).lasts := fun _ _ _ _ _ ⟨A, c, e, h, n⟩ hb => ⟨A, c, e, h.ext hb, n⟩
theorem own_sl {α : Type} {w : World} {base : Nat} {E : TypeId} {mk : α → Value} {A : Option Addr} {c : Nat} {xs : List α} (h : Own w base E mk (.slice A xs.length c) xs) : Sl w mk A xs := by
  obtain ⟨A', c', e, hs⟩ := h.sl
  injection e with e1
  subst e1
  exact hs

/-- Lists of a call's own, by value. -/
def TwPost (xs ys : List Int) (rs : List Bool) (w : World) (e : Ending) (w' : World) : Prop :=
  ∃ B1 B2 B3 d1 d2 d3, e = .returned (.agg #[.slice B1 xs.length d1, .slice B2 ys.length d2, .slice B3 rs.length d3]) ∧ InMem w' B1 B2 B3 xs ys rs ∧ NewL w.heap.size B1 B2 B3 ∧ Below w.heap.size w w'

set_option maxRecDepth 100000 in
set_option maxHeartbeats 4000000 in
theorem twin_any (A1 A2 A3 : Option Addr) (c1 c2 c3 : Nat) (xs ys : List Int) (rs : List Bool) (w : World) (h : InMem w A1 A2 A3 xs ys rs) (la : xs.length ≤ 100000) (li : ys.length ≤ 100000) (lr : rs.length ≤ 100000) :
    Calls Try.prog 39 #[.agg #[.slice A1 xs.length c1, .slice A2 ys.length c2, .slice A3 rs.length c3]] w (TwPost xs ys rs w) := by
  have HM := Lib.hid h
  clear h
  obtain ⟨X, hX⟩ : ∃ X, (w.alloc (.cells #[.slice A1 xs.length c1, .slice A2 ys.length c2, .slice A3 rs.length c3] 25)).alloc (.cells #[.slice none 0 0, .slice none 0 0, .slice none 0 0] 25) = X := ⟨_, rfl⟩
  have k1 : Blk X w.heap.size 25 #[.slice A1 xs.length c1, .slice A2 ys.length c2, .slice A3 rs.length c3] := by rw [← hX]; exact (Blk.new_ rfl rfl).alloc_ _
  have k2 : Blk X (w.heap.size + 1) 25 #[.slice none 0 0, .slice none 0 0, .slice none 0 0] := by rw [← hX]; exact Blk.new_ (by simp) rfl
  have hbx : Below w.heap.size w X := by rw [← hX]; exact ((Below.refl _ _).alloc (Nat.le_refl _) _).alloc (by simp) _
  go_enter Try.func39, Try.ntmps39
  go_wp2_with fail
  (try rw [hX])
  clear hX
  refine wp_region_chain2 [0, 1, 2, 0, 1, 2, 0, 1, 2, 0, 3] [[], [], [], [], [], [], [], [], [], [2, 5, 8], []] [.is ?fan0, .kn ?fan1, .has (ClF (Value.int .i64) xs), .is ?fan3, .kn ?fan4, .has (ClF (Value.int .i64) ys), .is ?fan6, .kn ?fan7, .has (ClF (Value.bool) rs), .fn [2, 5, 8] (fun l => .agg #[l.getD 0 undef, l.getD 1 undef, l.getD 2 undef]), .late] (by rfl) (by rfl) (by kernel_rfl) (by kernel_rfl) (by kernel_rfl) (by kernel_rfl) (by kernel_rfl) (by kernel_rfl) (lts_is (lts_kn (lts_has (ClF.lasts (Value.int .i64) xs) (lts_is (lts_kn (lts_has (ClF.lasts (Value.int .i64) ys) (lts_is (lts_kn (lts_has (ClF.lasts (Value.bool) rs) (lts_fn (lts_late lts_nil))))))))))) (fun W0 hb0 hz0 => ?_)
  rotate_left 6
  rw [show lateIdx [0, 1, 2, 0, 1, 2, 0, 1, 2, 0, 3] = [10] from by rfl]
  have hb1 := hbx.trans (hb0.mono hbx.size)
  have hz1 : w.heap.size ≤ W0.heap.size := hb1.size
  have kW := k1.below_ hb0 k1.lt
  have zW := kW.lt
  have kO := k2.below_ hb0 k2.lt
  have p0 : W0.cell? ⟨w.heap.size, 0, none⟩ = some (.slice A1 xs.length c1) := (kW.cell_ 0).trans (by simp)
  have p1 : W0.cell? ⟨w.heap.size, 1, none⟩ = some (.slice A2 ys.length c2) := (kW.cell_ 1).trans (by simp)
  have p2 : W0.cell? ⟨w.heap.size, 2, none⟩ = some (.slice A3 rs.length c3) := (kW.cell_ 2).trans (by simp)
  refine chn_is (stp_pure (by rfl) ?yan0) ?ran0
  case yan0 =>
    intro w
    go_simp
    first | done | with_reducible rfl
  (try simp only [Act.put, List.setIfInBounds_toArray, List.set_cons_zero, List.set_cons_succ, List.nil_append, List.cons_append, Nat.reduceAdd])
  refine chn_kn (stp_take (by rfl) ?yan1) ?ran1
  case yan1 =>
    intro w hbw hd
    have r0 := cell_keep hbw p0 zW
    clear hd
    go_simp
    first | done | with_reducible rfl
  (try simp only [Act.put, List.setIfInBounds_toArray, List.set_cons_zero, List.set_cons_succ, List.nil_append, List.cons_append, Nat.reduceAdd])
  refine chn_has ?san2 (fun van2 => ?ran2)
  case san2 =>
    intro w hbw hd K Q' hK
    clear hd
    go_simp
    refine (CloneI_any A1 c1 xs _ (HM.out.a.ext (hb1.trans (hbw.mono hz1))) la).mono ?_
    rintro e y ⟨A', c', rfl, ho, hy⟩
    go_wp2_with fail
    refine hK.out (.slice A' xs.length c') _ _ ?_ ?_ ?_
    · (simp only [Act.put, List.setIfInBounds_toArray, List.set_cons_zero, List.set_cons_succ, List.nil_append, List.cons_append, Nat.reduceAdd])
    · exact (by repeat' (first | with_reducible exact Below.refl _ _ | with_reducible assumption | with_reducible apply Below.drew | with_reducible apply below_drewN | with_reducible apply Below.alloc | with_reducible apply Below.setCell | (with_reducible refine Below.trans ?_ (Below.mono (by assumption) ?_)) | (simp; done) | (simp; omega) | omega | with_reducible apply le_size_alloc | with_reducible apply le_size_drewN | with_reducible apply le_size_drew | with_reducible apply le_size_setCell | with_reducible refine Nat.le_trans ?_ (Below.size (by assumption))))
    · exact ⟨A', c', rfl, own_sl ho, fun g e => (ho.block g e).1⟩
  (try simp only [Act.put, List.setIfInBounds_toArray, List.set_cons_zero, List.set_cons_succ, List.nil_append, List.cons_append, Nat.reduceAdd])
  refine chn_is (stp_pure (by rfl) ?yan3) ?ran3
  case yan3 =>
    intro w
    go_simp
    first | done | with_reducible rfl
  (try simp only [Act.put, List.setIfInBounds_toArray, List.set_cons_zero, List.set_cons_succ, List.nil_append, List.cons_append, Nat.reduceAdd])
  refine chn_kn (stp_take (by rfl) ?yan4) ?ran4
  case yan4 =>
    intro w hbw hd
    have r1 := cell_keep hbw p1 zW
    clear hd
    go_simp
    first | done | with_reducible rfl
  (try simp only [Act.put, List.setIfInBounds_toArray, List.set_cons_zero, List.set_cons_succ, List.nil_append, List.cons_append, Nat.reduceAdd])
  refine chn_has ?san5 (fun van5 => ?ran5)
  case san5 =>
    intro w hbw hd K Q' hK
    clear hd
    go_simp
    refine (CloneI_any A2 c2 ys _ (HM.out.i.ext (hb1.trans (hbw.mono hz1))) li).mono ?_
    rintro e y ⟨A', c', rfl, ho, hy⟩
    go_wp2_with fail
    refine hK.out (.slice A' ys.length c') _ _ ?_ ?_ ?_
    · (simp only [Act.put, List.setIfInBounds_toArray, List.set_cons_zero, List.set_cons_succ, List.nil_append, List.cons_append, Nat.reduceAdd])
    · exact (by repeat' (first | with_reducible exact Below.refl _ _ | with_reducible assumption | with_reducible apply Below.drew | with_reducible apply below_drewN | with_reducible apply Below.alloc | with_reducible apply Below.setCell | (with_reducible refine Below.trans ?_ (Below.mono (by assumption) ?_)) | (simp; done) | (simp; omega) | omega | with_reducible apply le_size_alloc | with_reducible apply le_size_drewN | with_reducible apply le_size_drew | with_reducible apply le_size_setCell | with_reducible refine Nat.le_trans ?_ (Below.size (by assumption))))
    · exact ⟨A', c', rfl, own_sl ho, fun g e => (ho.block g e).1⟩
  (try simp only [Act.put, List.setIfInBounds_toArray, List.set_cons_zero, List.set_cons_succ, List.nil_append, List.cons_append, Nat.reduceAdd])
  refine chn_is (stp_pure (by rfl) ?yan6) ?ran6
  case yan6 =>
    intro w
    go_simp
    first | done | with_reducible rfl
  (try simp only [Act.put, List.setIfInBounds_toArray, List.set_cons_zero, List.set_cons_succ, List.nil_append, List.cons_append, Nat.reduceAdd])
  refine chn_kn (stp_take (by rfl) ?yan7) ?ran7
  case yan7 =>
    intro w hbw hd
    have r2 := cell_keep hbw p2 zW
    clear hd
    go_simp
    first | done | with_reducible rfl
  (try simp only [Act.put, List.setIfInBounds_toArray, List.set_cons_zero, List.set_cons_succ, List.nil_append, List.cons_append, Nat.reduceAdd])
  refine chn_has ?san8 (fun van8 => ?ran8)
  case san8 =>
    intro w hbw hd K Q' hK
    clear hd
    go_simp
    refine (CloneB_any A3 c3 rs _ (HM.out.r.ext (hb1.trans (hbw.mono hz1))) lr).mono ?_
    rintro e y ⟨A', c', rfl, ho, hy⟩
    go_wp2_with fail
    refine hK.out (.slice A' rs.length c') _ _ ?_ ?_ ?_
    · (simp only [Act.put, List.setIfInBounds_toArray, List.set_cons_zero, List.set_cons_succ, List.nil_append, List.cons_append, Nat.reduceAdd])
    · exact (by repeat' (first | with_reducible exact Below.refl _ _ | with_reducible assumption | with_reducible apply Below.drew | with_reducible apply below_drewN | with_reducible apply Below.alloc | with_reducible apply Below.setCell | (with_reducible refine Below.trans ?_ (Below.mono (by assumption) ?_)) | (simp; done) | (simp; omega) | omega | with_reducible apply le_size_alloc | with_reducible apply le_size_drewN | with_reducible apply le_size_drew | with_reducible apply le_size_setCell | with_reducible refine Nat.le_trans ?_ (Below.size (by assumption))))
    · exact ⟨A', c', rfl, own_sl ho, fun g e => (ho.block g e).1⟩
  (try simp only [Act.put, List.setIfInBounds_toArray, List.set_cons_zero, List.set_cons_succ, List.nil_append, List.cons_append, Nat.reduceAdd])
  refine chn_fn (.agg #[van2, van5, van8]) (by rfl) (stp_pureK (by rfl) ?yan9) ?ran9
  case yan9 =>
    intro w0 hd w
    obtain ⟨_, _, B1, d1, rfl, _⟩ : ∃ lo hi, ClF (Value.int .i64) xs van2 lo hi w0 := hd 2 _ _ (by kernel_rfl) rfl rfl
    obtain ⟨_, _, B2, d2, rfl, _⟩ : ∃ lo hi, ClF (Value.int .i64) ys van5 lo hi w0 := hd 5 _ _ (by kernel_rfl) rfl rfl
    obtain ⟨_, _, B3, d3, rfl, _⟩ : ∃ lo hi, ClF Value.bool rs van8 lo hi w0 := hd 8 _ _ (by kernel_rfl) rfl rfl
    clear hd
    go_simp
    first | done | rfl
  (try simp only [Act.put, List.setIfInBounds_toArray, List.set_cons_zero, List.set_cons_succ, List.nil_append, List.cons_append, Nat.reduceAdd])
  refine chn_late ?ran10
  (try simp only [Act.put, List.setIfInBounds_toArray, List.set_cons_zero, List.set_cons_succ, List.nil_append, List.cons_append, Nat.reduceAdd])
  refine chn_end (fun wz lo hi hbz hd hR => ?_)
  obtain ⟨B1, d1, rfl, s1, n1⟩ : ClF (Value.int .i64) xs van2 (lo 2) (hi 2) wz := hd 2 _ _ rfl rfl
  obtain ⟨B2, d2, rfl, s2, n2⟩ : ClF (Value.int .i64) ys van5 (lo 5) (hi 5) wz := hd 5 _ _ rfl rfl
  obtain ⟨B3, d3, rfl, s3, n3⟩ : ClF Value.bool rs van8 (lo 8) (hi 8) wz := hd 8 _ _ rfl rfl
  have h2 := (hR.2 2 _ rfl).1
  have h5 := (hR.2 5 _ rfl).1
  have h8 := (hR.2 8 _ rfl).1
  have kz := kO.below_ hbz kO.lt
  have klz := kO.lt
  have HBZ := Lib.hid (hb1.trans (hbz.mono hz1))
  have hzz := hb0.size
  clear hd hR p0 p1 p2 hb1
  have y0 : wz.cell? ⟨w.heap.size + 1, 0, none⟩ = some (.slice none 0 0) := (kz.cell_ 0).trans (by simp)
  have y1 : wz.cell? ⟨w.heap.size + 1, 1, none⟩ = some (.slice none 0 0) := (kz.cell_ 1).trans (by simp)
  have y2 : wz.cell? ⟨w.heap.size + 1, 2, none⟩ = some (.slice none 0 0) := (kz.cell_ 2).trans (by simp)
  have f0_ := kz.frozen_ 0
  have f1_ := kz.frozen_ 1
  have f2_ := kz.frozen_ 2
  refine late_one (by simp only [List.getElem?_toArray, List.getElem?_cons_succ, List.getElem?_cons_zero]; rfl) (fun K Q' hK => ?_)
  go_simp
  refine hK.out _ ?_
  clear hK K Q'
  go_wp2_with fail
  refine bodyPost_ret (v := .agg #[.slice B1 xs.length d1, .slice B2 ys.length d2, .slice B3 rs.length d3]) (by simp [results, Try.results39, go_sem, y0, y1, y2]) rfl ?_
  have nb : NewL (w.heap.size + 2) B1 B2 B3 := ⟨fun g e => by have := n1 g e; have := hbx.size; omega, fun g e => by have := n2 g e; omega, fun g e => by have := n3 g e; omega⟩
  refine ⟨B1, B2, B3, d1, d2, d3, rfl, ?_, ⟨fun g e => by have := nb.a g e; omega, fun g e => by have := nb.i g e; omega, fun g e => by have := nb.r g e; omega⟩, ?_⟩
  · have : InMem wz B1 B2 B3 xs ys rs := ⟨s1, s2, s3, by omega, by omega, by omega, HM.out.wa, HM.out.wi⟩
    exact ((this.far_ nb (by omega) _ _).far_ nb (by omega) _ _).far_ nb (by omega) _ _
  · exact ((HBZ.out.setCell (p := ⟨w.heap.size + 1, 0, none⟩) (by simp) _).setCell (p := ⟨w.heap.size + 1, 1, none⟩) (by simp) _).setCell (p := ⟨w.heap.size + 1, 2, none⟩) (by simp) _

/-- The error of lists, and of what else is asked. -/
def sndS (xs ys : List Int) (rs : List Bool) (fits : Bool) : Int := if lruChk xs ys rs ≠ 0 then lruChk xs ys rs else if fits then 0 else 2
def tgtB (T : Int) : Bool := decide (0 ≤ T ∧ T ≤ 256)
def cntB (n : Int) : Bool := decide (0 ≤ n ∧ n ≤ 1000)
theorem isTarget_any (T : Int) (w : World) : Calls Try.prog 38 #[.int .i64 T] w fun e w' => e = .returned (.bool (tgtB T)) ∧ w = w' := by
  rcases (by omega : T < 0 ∨ (0 ≤ T ∧ T ≤ 256) ∨ (0 ≤ T ∧ 256 < T)) with h | h | h
  · rw [show tgtB T = false by unfold tgtB; simp; omega]
    have d0 : decide (T ≥ 0) = false := by simp; omega
    have d1 : ¬ 0 ≤ T := by omega
    clear h
    go_enter Try.func38, Try.ntmps38
    go_wp2_with fail
    go_ret
    exact ⟨rfl, rfl⟩
  · rw [show tgtB T = true by unfold tgtB; simp; omega]
    obtain ⟨h1, h2⟩ := h
    go_enter Try.func38, Try.ntmps38
    go_wp2_with fail
    go_ret
    exact ⟨rfl, rfl⟩
  · rw [show tgtB T = false by unfold tgtB; simp; omega]
    obtain ⟨h1, h2⟩ := h
    have d1 : ¬ T ≤ 256 := by omega
    clear h2
    go_enter Try.func38, Try.ntmps38
    go_wp2_with fail
    go_ret
    exact ⟨rfl, rfl⟩
theorem isCount_any (T : Int) (w : World) : Calls Try.prog 50 #[.int .i64 T] w fun e w' => e = .returned (.bool (cntB T)) ∧ w = w' := by
  rcases (by omega : T < 0 ∨ (0 ≤ T ∧ T ≤ 1000) ∨ (0 ≤ T ∧ 1000 < T)) with h | h | h
  · rw [show cntB T = false by unfold cntB; simp; omega]
    have d1 : ¬ 0 ≤ T := by omega
    clear h
    go_enter Try.func50, Try.ntmps50
    go_wp2_with fail
    go_ret
    exact ⟨rfl, rfl⟩
  · rw [show cntB T = true by unfold cntB; simp; omega]
    obtain ⟨h1, h2⟩ := h
    go_enter Try.func50, Try.ntmps50
    go_wp2_with fail
    go_ret
    exact ⟨rfl, rfl⟩
  · rw [show cntB T = false by unfold cntB; simp; omega]
    obtain ⟨h1, h2⟩ := h
    have d1 : ¬ T ≤ 1000 := by omega
    clear h2
    go_enter Try.func50, Try.ntmps50
    go_wp2_with fail
    go_ret
    exact ⟨rfl, rfl⟩

set_option maxRecDepth 100000 in
set_option maxHeartbeats 4000000 in
theorem sound_any (A1 A2 A3 : Option Addr) (c1 c2 c3 : Nat) (xs ys : List Int) (rs : List Bool) (fits : Bool) (w : World) (h : InMem w A1 A2 A3 xs ys rs) :
    Calls Try.prog 37 #[.agg #[.slice A1 xs.length c1, .slice A2 ys.length c2, .slice A3 rs.length c3], .bool fits] w fun e w' => e = .returned (.int .i64 (sndS xs ys rs fits)) ∧ Below w.heap.size w w' := by
  have HM := Lib.hid h
  clear h
  obtain ⟨z, hz⟩ : ∃ z, lruChk xs ys rs = z := ⟨_, rfl⟩
  have HZ := Lib.hid hz
  by_cases h0 : z = 0
  · have hs : sndS xs ys rs fits = if fits then 0 else 2 := by unfold sndS; rw [hz, if_neg (by simpa using h0)]
    rw [hs]
    clear hz hs
    subst h0
    cases fits
    · go_enter Try.func37, Try.ntmps37
      go_wp2_with fail
      refine ((HM.out.ext ((Below.refl _ _).alloc (Nat.le_refl _) _)).check c1 c2 c3).mono ?_
      rw [HZ.out]
      rintro e w1 ⟨rfl, hb1⟩
      go_wp2_with fail
      go_ret
      exact ⟨rfl, (by repeat' (first | with_reducible exact Below.refl _ _ | with_reducible assumption | with_reducible apply Below.drew | with_reducible apply below_drewN | with_reducible apply Below.alloc | with_reducible apply Below.setCell | (with_reducible refine Below.trans ?_ (Below.mono (by assumption) ?_)) | (simp; done) | (simp; omega) | omega | with_reducible apply le_size_alloc | with_reducible apply le_size_drewN | with_reducible apply le_size_drew | with_reducible apply le_size_setCell | refine Nat.le_trans ?_ (Below.size (by assumption))))⟩
    · go_enter Try.func37, Try.ntmps37
      go_wp2_with fail
      refine ((HM.out.ext ((Below.refl _ _).alloc (Nat.le_refl _) _)).check c1 c2 c3).mono ?_
      rw [HZ.out]
      rintro e w1 ⟨rfl, hb1⟩
      go_wp2_with fail
      go_ret
      exact ⟨rfl, (by repeat' (first | with_reducible exact Below.refl _ _ | with_reducible assumption | with_reducible apply Below.drew | with_reducible apply below_drewN | with_reducible apply Below.alloc | with_reducible apply Below.setCell | (with_reducible refine Below.trans ?_ (Below.mono (by assumption) ?_)) | (simp; done) | (simp; omega) | omega | with_reducible apply le_size_alloc | with_reducible apply le_size_drewN | with_reducible apply le_size_drew | with_reducible apply le_size_setCell | refine Nat.le_trans ?_ (Below.size (by assumption))))⟩
  · have hs : sndS xs ys rs fits = z := by unfold sndS; rw [hz, if_pos h0]
    rw [hs]
    have hzb : (z != 0) = true := by simpa using h0
    clear hz hs
    go_enter Try.func37, Try.ntmps37
    go_wp2_with fail
    refine ((HM.out.ext ((Below.refl _ _).alloc (Nat.le_refl _) _)).check c1 c2 c3).mono ?_
    rw [HZ.out]
    rintro e w1 ⟨rfl, hb1⟩
    go_wp2_with fail
    go_ret
    exact ⟨rfl, (by repeat' (first | with_reducible exact Below.refl _ _ | with_reducible assumption | with_reducible apply Below.drew | with_reducible apply below_drewN | with_reducible apply Below.alloc | with_reducible apply Below.setCell | (with_reducible refine Below.trans ?_ (Below.mono (by assumption) ?_)) | (simp; done) | (simp; omega) | omega | with_reducible apply le_size_alloc | with_reducible apply le_size_drewN | with_reducible apply le_size_drew | with_reducible apply le_size_setCell | refine Nat.le_trans ?_ (Below.size (by assumption))))⟩
end Go.Proofs.Ytiobbdfkimpfbaa
namespace Go.Proofs.Ytiobbdfkimpfbaa
set_option linter.unusedSimpArgs false
set_option linter.unusedVariables false
open Go.RowKit Go.Maps

set_option maxRecDepth 100000 in
set_option maxHeartbeats 2000000 in
theorem Sown_any (Aa Ai Ar : Option Addr) (ca ci cr : Nat) (xs ys : List Int) (rs : List Bool) (w : World) (ha : Sl w (.int .i64) Aa xs) (hi : Sl w (.int .i64) Ai ys) (hr : Sl w .bool Ar rs)
    (la : xs.length ≤ 1000) (li : ys.length ≤ 1000) (lr : rs.length ≤ 1000) :
    Calls Try.prog 43 #[.agg #[.slice Aa xs.length ca, .slice Ai ys.length ci, .slice Ar rs.length cr]] w (OwnPost xs ys rs w) := by
  have HA := Lib.hid ha; have HI := Lib.hid hi; have HR := Lib.hid hr
  clear ha hi hr
  obtain ⟨i0, hi0, hz0, hz1, hz2⟩ := info_parts intInfo
  obtain ⟨j0, hj0, hy0, hy1, hy2⟩ := info_parts boolInfo
  go_enter Try.func43, Try.ntmps43
  go_upto_region 1 with fail
  go_cut [] (fun wx => OwnCut xs ys rs w wx)
  case first =>
   go_region_held3 (fun W => W.cell? ⟨w.heap.size, 0, none⟩ = some (.slice Aa xs.length ca) ∧ W.cell? ⟨w.heap.size, 1, none⟩ = some (.slice Ai ys.length ci) ∧ W.cell? ⟨w.heap.size, 2, none⟩ = some (.slice Ar rs.length cr))
    (refine ⟨?_, ?_, ?_⟩ <;> (refine cell_keep (B := w.heap.size + 1) (a := w.alloc (.cells #[.slice Aa xs.length ca, .slice Ai ys.length ci, .slice Ar rs.length cr] 25)) (by repeat' (first | with_reducible exact Below.refl _ _ | with_reducible assumption | with_reducible apply Below.drew | with_reducible apply below_drewN | with_reducible apply Below.alloc | with_reducible apply Below.setCell | (with_reducible refine Below.trans ?_ (Below.mono (by assumption) ?_)) | (simp; done) | (simp; omega) | omega | with_reducible apply le_size_alloc | with_reducible apply le_size_drewN | with_reducible apply le_size_drew | with_reducible apply le_size_setCell | refine Nat.le_trans ?_ (Below.size (by assumption)))) (by simp) (by simp)))
    (first
      | (refine step_append_fresh (mk := Value.int .i64) _ rfl (.tmp 3) (.tmp 5) _ rfl 3 i0 _ 8 Try.underlying22 hi0 hz0 hz1 rfl hz2 (w.heap.size + 2) _ ?_ ?_ Aa ca xs rfl rfl (HA.out.ext (by repeat' (first | with_reducible exact Below.refl _ _ | with_reducible assumption | with_reducible apply Below.drew | with_reducible apply below_drewN | with_reducible apply Below.alloc | with_reducible apply Below.setCell | (with_reducible refine Below.trans ?_ (Below.mono (by assumption) ?_)) | (simp; done) | (simp; omega) | omega | with_reducible apply le_size_alloc | with_reducible apply le_size_drewN | with_reducible apply le_size_drew | with_reducible apply le_size_setCell | refine Nat.le_trans ?_ (Below.size (by assumption))))) (int_one xs) (by omega) (by omega) ?_; (exact (by repeat' (first | with_reducible assumption | (with_reducible refine Blk.new_ ?_ ?_ <;> first | (simp; done) | rfl) | with_reducible apply Blk.drew_ | with_reducible apply Blk.drewN_ | with_reducible apply Blk.alloc_ | with_reducible refine Blk.far_ ?_ ?_ _ | (with_reducible refine Blk.below_ ?_ (by assumption) ?_) | (simp; done) | (simp; omega) | omega | with_reducible apply le_size_alloc | with_reducible apply lt_size_alloc | with_reducible apply le_size_drewN | with_reducible apply le_size_drew | with_reducible apply le_size_setCell | refine Nat.lt_of_lt_of_le ?_ (Below.size (by assumption)) | refine Nat.le_trans ?_ (Below.size (by assumption))))); (first | omega | (simp; done) | (simp; omega) | (have q1 := hb1.size; have q2 := hb2.size; first | omega | (simp at q1 q2 ⊢; omega) | (simp at q1 q2; omega) | (simp at q1; omega)) | (have q1 := hb1.size; first | omega | (simp at q1 ⊢; omega) | (simp at q1; omega))); intro A1 c1 w1 hs1 hb1 hl1)
      | (refine step_append_fresh (mk := Value.int .i64) _ rfl (.tmp 7) (.tmp 9) _ rfl 3 i0 _ 8 Try.underlying22 hi0 hz0 hz1 rfl hz2 (w.heap.size + 2) _ ?_ ?_ Ai ci ys rfl rfl (HI.out.ext (by repeat' (first | with_reducible exact Below.refl _ _ | with_reducible assumption | with_reducible apply Below.drew | with_reducible apply below_drewN | with_reducible apply Below.alloc | with_reducible apply Below.setCell | (with_reducible refine Below.trans ?_ (Below.mono (by assumption) ?_)) | (simp; done) | (simp; omega) | omega | with_reducible apply le_size_alloc | with_reducible apply le_size_drewN | with_reducible apply le_size_drew | with_reducible apply le_size_setCell | refine Nat.le_trans ?_ (Below.size (by assumption))))) (int_one ys) (by omega) (by omega) ?_; (exact (by repeat' (first | with_reducible assumption | (with_reducible refine Blk.new_ ?_ ?_ <;> first | (simp; done) | rfl) | with_reducible apply Blk.drew_ | with_reducible apply Blk.drewN_ | with_reducible apply Blk.alloc_ | with_reducible refine Blk.far_ ?_ ?_ _ | (with_reducible refine Blk.below_ ?_ (by assumption) ?_) | (simp; done) | (simp; omega) | omega | with_reducible apply le_size_alloc | with_reducible apply lt_size_alloc | with_reducible apply le_size_drewN | with_reducible apply le_size_drew | with_reducible apply le_size_setCell | refine Nat.lt_of_lt_of_le ?_ (Below.size (by assumption)) | refine Nat.le_trans ?_ (Below.size (by assumption))))); (first | omega | (simp; done) | (simp; omega) | (have q1 := hb1.size; have q2 := hb2.size; first | omega | (simp at q1 q2 ⊢; omega) | (simp at q1 q2; omega) | (simp at q1; omega)) | (have q1 := hb1.size; first | omega | (simp at q1 ⊢; omega) | (simp at q1; omega))); intro A2 c2 w2 hs2 hb2 hl2)
      | (refine step_append_fresh (mk := Value.bool) _ rfl (.tmp 11) (.tmp 13) _ rfl 4 j0 _ 1 Try.underlying23 hj0 hy0 hy1 rfl hy2 (w.heap.size + 2) _ ?_ ?_ Ar cr rs rfl rfl (HR.out.ext (by repeat' (first | with_reducible exact Below.refl _ _ | with_reducible assumption | with_reducible apply Below.drew | with_reducible apply below_drewN | with_reducible apply Below.alloc | with_reducible apply Below.setCell | (with_reducible refine Below.trans ?_ (Below.mono (by assumption) ?_)) | (simp; done) | (simp; omega) | omega | with_reducible apply le_size_alloc | with_reducible apply le_size_drewN | with_reducible apply le_size_drew | with_reducible apply le_size_setCell | refine Nat.le_trans ?_ (Below.size (by assumption))))) (bool_one rs) (by omega) (by omega) ?_; (exact (by repeat' (first | with_reducible assumption | (with_reducible refine Blk.new_ ?_ ?_ <;> first | (simp; done) | rfl) | with_reducible apply Blk.drew_ | with_reducible apply Blk.drewN_ | with_reducible apply Blk.alloc_ | with_reducible refine Blk.far_ ?_ ?_ _ | (with_reducible refine Blk.below_ ?_ (by assumption) ?_) | (simp; done) | (simp; omega) | omega | with_reducible apply le_size_alloc | with_reducible apply lt_size_alloc | with_reducible apply le_size_drewN | with_reducible apply le_size_drew | with_reducible apply le_size_setCell | refine Nat.lt_of_lt_of_le ?_ (Below.size (by assumption)) | refine Nat.le_trans ?_ (Below.size (by assumption))))); (first | omega | (simp; done) | (simp; omega) | (have q1 := hb1.size; have q2 := hb2.size; first | omega | (simp at q1 q2 ⊢; omega) | (simp at q1 q2; omega) | (simp at q1; omega)) | (have q1 := hb1.size; first | omega | (simp at q1 ⊢; omega) | (simp at q1; omega))); intro A3 c3 w3 hs3 hb3 hl3; have hbl : Below (w.heap.size + 2) ((w.alloc (.cells #[.slice Aa xs.length ca, .slice Ai ys.length ci, .slice Ar rs.length cr] 25)).alloc (.cells #[.slice none 0 0, .slice none 0 0, .slice none 0 0] 25)) w3 := (by repeat' (first | with_reducible exact Below.refl _ _ | with_reducible assumption | with_reducible apply Below.drew | with_reducible apply below_drewN | with_reducible apply Below.alloc | with_reducible apply Below.setCell | (with_reducible refine Below.trans ?_ (Below.mono (by assumption) ?_)) | (simp; done) | (simp; omega) | omega | with_reducible apply le_size_alloc | with_reducible apply le_size_drewN | with_reducible apply le_size_drew | with_reducible apply le_size_setCell | refine Nat.le_trans ?_ (Below.size (by assumption)))); have q0 : w3.cell? ⟨w.heap.size + 1, 0, none⟩ = some (.slice none 0 0) := cell_keep hbl (by simp) (by simp); have q1 : w3.cell? ⟨w.heap.size + 1, 1, none⟩ = some (.slice none 0 0) := cell_keep hbl (by simp) (by simp); have q2 : w3.cell? ⟨w.heap.size + 1, 2, none⟩ = some (.slice none 0 0) := cell_keep hbl (by simp) (by simp); have q3 : w3.frozen? ⟨w.heap.size + 1, 0, none⟩ = false := frozen_keep hbl (by simp) (by simp); have q4 : w3.frozen? ⟨w.heap.size + 1, 1, none⟩ = false := frozen_keep hbl (by simp) (by simp); have q5 : w3.frozen? ⟨w.heap.size + 1, 2, none⟩ = false := frozen_keep hbl (by simp) (by simp)))
   all_goals
    go_wp2_with fail
    go_meet
    have z1 : w.heap.size + 2 ≤ w1.heap.size := by have := hb1.size; first | omega | (simp at this; omega)
    have z2 : w1.heap.size ≤ w2.heap.size := by have := hb2.size; first | omega | (simp at this; omega)
    have z3 : w2.heap.size ≤ w3.heap.size := by have := hb3.size; first | omega | (simp at this; omega)
    obtain ⟨r0, r1, r2⟩ := cells3 q0 q1 q2 (.slice A1 xs.length c1) (.slice A2 ys.length c2) (.slice A3 rs.length c3)
    have HBL := Lib.hid hbl
    clear hbl
    have g2 : Below w2.heap.size w2 w3 := (by repeat' (first | with_reducible exact Below.refl _ _ | with_reducible assumption | with_reducible apply Below.drew | with_reducible apply below_drewN | with_reducible apply Below.alloc | with_reducible apply Below.setCell | (with_reducible refine Below.trans ?_ (Below.mono (by assumption) ?_)) | (simp; done) | (simp; omega) | omega | with_reducible apply le_size_alloc | with_reducible apply le_size_drewN | with_reducible apply le_size_drew | with_reducible apply le_size_setCell | refine Nat.le_trans ?_ (Below.size (by assumption))))
    have g1 : Below w1.heap.size w1 w3 := (by repeat' (first | with_reducible exact Below.refl _ _ | with_reducible assumption | with_reducible apply Below.drew | with_reducible apply below_drewN | with_reducible apply Below.alloc | with_reducible apply Below.setCell | (with_reducible refine Below.trans ?_ (Below.mono (by assumption) ?_)) | (simp; done) | (simp; omega) | omega | with_reducible apply le_size_alloc | with_reducible apply le_size_drewN | with_reducible apply le_size_drew | with_reducible apply le_size_setCell | refine Nat.le_trans ?_ (Below.size (by assumption))))
    have hw : Below w.heap.size w w3 := ((Below.refl _ _).alloc (Nat.le_refl _) _ |>.alloc (by simp) _).trans (HBL.out.mono (by omega))
    have o1 := hs1.below g1
    have o2 := hs2.below g2
    have y1 := hb1.size; have y2 := hb2.size; have y3 := hb3.size
    (try simp at y1); (try simp at y2); (try simp at y3)
    have k1 : ∀ g, A1.map (·.block) = some g → _ := fun g e => (hs1.block g e).2
    have k2 : ∀ g, A2.map (·.block) = some g → _ := fun g e => (hs2.block g e).2
    have hL : OwnL w3 (w.heap.size + 2) A1 c1 A2 c2 A3 c3 xs ys rs := by
      refine ⟨o1, o2, hs3, fun g e e' => ?_, fun g e e' => ?_, fun g e e' => ?_⟩
      · have a1 := k1 g e
        rcases hl1 g e with h | h <;> rcases hl2 g e' with h' | h' <;> first | omega | (simp at h h'; omega) | (simp at h; omega) | (simp at h'; omega)
      · have a1 := k1 g e
        rcases hl1 g e with h | h <;> rcases hl3 g e' with h' | h' <;> first | omega | (simp at h h'; omega) | (simp at h; omega) | (simp at h'; omega)
      · have a1 := k2 g e
        rcases hl2 g e with h | h <;> rcases hl3 g e' with h' | h' <;> first | omega | (simp at h h'; omega) | (simp at h; omega) | (simp at h'; omega)
    exact ⟨A1, c1, A2, c2, A3, c3, r0, r1, r2, (((hL.far_ _ _ (by omega)).far_ _ _ (by omega)).far_ _ _ (by omega)).base_ (by omega), below3 hw (by omega) _ _ _⟩
  case rest =>
    obtain ⟨A1, c1, A2, c2, A3, c3, q0, q1, q2, hL, hb⟩ := hcut
    have HH := Lib.hid (And.intro hL hb)
    clear hL hb
    go_wp2
    refine bodyPost_ret (v := .agg #[.slice A1 xs.length c1, .slice A2 ys.length c2, .slice A3 rs.length c3]) (by simp [results, Try.results43, go_sem, q0, q1, q2]) rfl ?_
    exact ⟨A1, c1, A2, c2, A3, c3, rfl, HH.out.1, HH.out.2⟩
end Go.Proofs.Ytiobbdfkimpfbaa
namespace Go.Proofs.Ytiobbdfkimpfbaa
set_option linter.unusedSimpArgs false
set_option linter.unusedVariables false
open Go.RowKit Go.Maps

/-- A step's results. -/
structure SR where
  what : Int
  frame : Int
  xs : List Int
  ys : List Int
  rs : List Bool
  e : Int
def fullS (T : Int) (xs ys : List Int) (rs : List Bool) : SR :=
  if sndS xs ys rs (tgtB T) ≠ 0 then ⟨0, 0, [], [], [], sndS xs ys rs (tgtB T)⟩ else ⟨(stepS T xs ys rs).1, (stepS T xs ys rs).2.1, (stepS T xs ys rs).2.2.1, (stepS T xs ys rs).2.2.2.1, (stepS T xs ys rs).2.2.2.2, 0⟩
def SQ (R : SR) (w : World) (e : Ending) (w' : World) : Prop :=
  ∃ B1 B2 B3 d1 d2 d3, e = .returned (.tuple #[.agg #[.slice B1 R.xs.length d1, .slice B2 R.ys.length d2, .slice B3 R.rs.length d3], .int .i64 R.what, .int .i64 R.frame, .int .i64 R.e]) ∧ InMem w' B1 B2 B3 R.xs R.ys R.rs ∧ NewL w.heap.size B1 B2 B3 ∧ Below w.heap.size w w'
theorem snd_ok {xs ys : List Int} {rs : List Bool} {b : Bool} (h : sndS xs ys rs b = 0) : lruChk xs ys rs = 0 ∧ b = true := by
  unfold sndS at h
  by_cases h0 : lruChk xs ys rs = 0
  · rw [if_neg (by simpa using h0)] at h
    cases b
    · simp at h
    · exact ⟨h0, rfl⟩
  · rw [if_pos h0] at h; exact absurd h h0
theorem NewL.mono {a b : Nat} {A1 A2 A3 : Option Addr} (h : NewL a A1 A2 A3) (hb : b ≤ a) : NewL b A1 A2 A3 := ⟨fun g e => Nat.le_trans hb (h.a g e), fun g e => Nat.le_trans hb (h.i g e), fun g e => Nat.le_trans hb (h.r g e)⟩
theorem chk_len {xs ys : List Int} {rs : List Bool} (h : lruChk xs ys rs = 0) : xs.length ≤ 256 ∧ ys.length ≤ 256 ∧ rs.length ≤ 256 := by
  have hv := valid_of_chk h
  have := hv.len; have := hv.hi
  omega

theorem step_mem {w W : World} {B1 B2 B3 : Option Addr} {xs ys : List Int} {rs : List Bool} {a b c : Value} (h : InMem W B1 B2 B3 xs ys rs) (hn : NewL (w.heap.size + 2) B1 B2 B3) :
    InMem (((W.drew.setCell ⟨w.heap.size + 1, 0, none⟩ a).setCell ⟨w.heap.size + 1, 1, none⟩ b).setCell ⟨w.heap.size + 1, 2, none⟩ c) B1 B2 B3 xs ys rs :=
  (((h.ext (Below.refl _ _).drew).far_ hn (by omega) _ _).far_ hn (by omega) _ _).far_ hn (by omega) _ _
theorem step_below {w W : World} {a b c : Value} (h : Below w.heap.size w W) : Below w.heap.size w (((W.drew.setCell ⟨w.heap.size + 1, 0, none⟩ a).setCell ⟨w.heap.size + 1, 1, none⟩ b).setCell ⟨w.heap.size + 1, 2, none⟩ c) :=
  ((h.drew.setCell (p := ⟨w.heap.size + 1, 0, none⟩) (by simp) _).setCell (p := ⟨w.heap.size + 1, 1, none⟩) (by simp) _).setCell (p := ⟨w.heap.size + 1, 2, none⟩) (by simp) _

set_option maxRecDepth 100000 in
set_option maxHeartbeats 4000000 in
theorem Step_bad (A1 A2 A3 : Option Addr) (c1 c2 c3 : Nat) (xs ys : List Int) (rs : List Bool) (T : Int) (w : World) (h : InMem w A1 A2 A3 xs ys rs) {z : Int} (hz : sndS xs ys rs (tgtB T) = z) (h0 : z ≠ 0) :
    Calls Try.prog 13 #[.agg #[.slice A1 xs.length c1, .slice A2 ys.length c2, .slice A3 rs.length c3], .int .i64 T] w (SQ (fullS T xs ys rs) w) := by
  have HE : Hid (fullS T xs ys rs = ⟨0, 0, [], [], [], z⟩) := by show _ = _; unfold fullS; rw [hz, if_pos h0]
  rw [HE.out]
  have HM := Lib.hid h; have HZ := Lib.hid hz
  have nz : (z != 0) = true := by simpa using h0
  clear h hz h0
  obtain ⟨X, hX⟩ : ∃ X, (w.alloc (.cells #[.slice A1 xs.length c1, .slice A2 ys.length c2, .slice A3 rs.length c3] 25)).alloc (.cells #[.slice none 0 0, .slice none 0 0, .slice none 0 0] 25) = X := ⟨_, rfl⟩
  have k1 : Blk X w.heap.size 25 #[.slice A1 xs.length c1, .slice A2 ys.length c2, .slice A3 rs.length c3] := by rw [← hX]; exact (Blk.new_ rfl rfl).alloc_ _
  have k2 : Blk X (w.heap.size + 1) 25 #[.slice none 0 0, .slice none 0 0, .slice none 0 0] := by rw [← hX]; exact Blk.new_ (by simp) rfl
  have HBX : Hid (Below w.heap.size w X) := by show Below _ _ _; rw [← hX]; exact ((Below.refl _ _).alloc (Nat.le_refl _) _).alloc (by simp) _
  go_enter Try.func13, Try.ntmps13
  go_wp2_with fail
  (try rw [hX])
  clear hX
  refine wp_region_chain2 [1, 0, 1, 1, 0] [[], [], [], [], []] [.kn ?fan0, .is ?fan1, .kn (.bool (tgtB T)), .kn (.int .i64 z), .is ?fan4] (by rfl) (by rfl) (by kernel_rfl) (by kernel_rfl) (by kernel_rfl) (by kernel_rfl) (by kernel_rfl) (by kernel_rfl) (lts_kn (lts_is (lts_kn (lts_kn (lts_is lts_nil))))) (fun W0 hb0 hz0 => ?_)
  rotate_left 3
  rw [show lateIdx [1, 0, 1, 1, 0] = [] from by rfl]
  have hb1 := HBX.out.trans (hb0.mono HBX.out.size)
  have kW := k1.below_ hb0 k1.lt
  have zW := kW.lt
  have p0 : W0.cell? ⟨w.heap.size, 0, none⟩ = some (.slice A1 xs.length c1) := (kW.cell_ 0).trans (by simp)
  have p1 : W0.cell? ⟨w.heap.size, 1, none⟩ = some (.slice A2 ys.length c2) := (kW.cell_ 1).trans (by simp)
  have p2 : W0.cell? ⟨w.heap.size, 2, none⟩ = some (.slice A3 rs.length c3) := (kW.cell_ 2).trans (by simp)
  refine chn_kn (stp_take (by rfl) ?yan0) ?ran0
  case yan0 =>
    intro w hbw hd
    have r0 := cell_keep hbw p0 zW
    have r1 := cell_keep hbw p1 zW
    have r2 := cell_keep hbw p2 zW
    clear hd
    go_simp
    first | done | with_reducible rfl
  (try simp only [Act.put, List.setIfInBounds_toArray, List.set_cons_zero, List.set_cons_succ, List.nil_append, List.cons_append, Nat.reduceAdd])
  refine chn_is (stp_pure (by rfl) ?yan1) ?ran1
  case yan1 =>
    intro w
    go_simp
    first | done | with_reducible rfl
  (try simp only [Act.put, List.setIfInBounds_toArray, List.set_cons_zero, List.set_cons_succ, List.nil_append, List.cons_append, Nat.reduceAdd])
  refine chn_kn ?san2 ?ran2
  case san2 =>
    intro w hbw hd K Q' hK
    clear hd
    go_simp
    refine (isTarget_any T _).mono ?_
    rintro e y ⟨rfl, rfl⟩
    go_wp2_with fail
    refine hK.out (.bool (tgtB T)) _ _ ?_ ?_ rfl
    · (simp only [Act.put, List.setIfInBounds_toArray, List.set_cons_zero, List.set_cons_succ, List.nil_append, List.cons_append, Nat.reduceAdd])
    · exact (by repeat' (first | with_reducible exact Below.refl _ _ | with_reducible assumption | with_reducible apply Below.drew | with_reducible apply below_drewN | with_reducible apply Below.alloc | with_reducible apply Below.setCell | (with_reducible refine Below.trans ?_ (Below.mono (by assumption) ?_)) | (simp; done) | (simp; omega) | omega | with_reducible apply le_size_alloc | with_reducible apply le_size_drewN | with_reducible apply le_size_drew | with_reducible apply le_size_setCell | with_reducible refine Nat.le_trans ?_ (Below.size (by assumption))))
  (try simp only [Act.put, List.setIfInBounds_toArray, List.set_cons_zero, List.set_cons_succ, List.nil_append, List.cons_append, Nat.reduceAdd])
  refine chn_kn ?san3 ?ran3
  case san3 =>
    intro w hbw hd K Q' hK
    clear hd
    go_simp
    refine (sound_any A1 A2 A3 c1 c2 c3 xs ys rs (tgtB T) _ (HM.out.ext (hb1.trans (hbw.mono hb1.size)))).mono ?_
    rw [HZ.out]
    rintro e y ⟨rfl, hy⟩
    go_wp2_with fail
    refine hK.out (.int .i64 z) _ _ ?_ ?_ rfl
    · (simp only [Act.put, List.setIfInBounds_toArray, List.set_cons_zero, List.set_cons_succ, List.nil_append, List.cons_append, Nat.reduceAdd])
    · exact (by repeat' (first | with_reducible exact Below.refl _ _ | with_reducible assumption | with_reducible apply Below.drew | with_reducible apply below_drewN | with_reducible apply Below.alloc | with_reducible apply Below.setCell | (with_reducible refine Below.trans ?_ (Below.mono (by assumption) ?_)) | (simp; done) | (simp; omega) | omega | with_reducible apply le_size_alloc | with_reducible apply le_size_drewN | with_reducible apply le_size_drew | with_reducible apply le_size_setCell | with_reducible refine Nat.le_trans ?_ (Below.size (by assumption))))
  (try simp only [Act.put, List.setIfInBounds_toArray, List.set_cons_zero, List.set_cons_succ, List.nil_append, List.cons_append, Nat.reduceAdd])
  refine chn_is (stp_pure (by rfl) ?yan4) ?ran4
  case yan4 =>
    intro w
    go_simp
    first | done | with_reducible rfl
  (try simp only [Act.put, List.setIfInBounds_toArray, List.set_cons_zero, List.set_cons_succ, List.nil_append, List.cons_append, Nat.reduceAdd])
  refine chn_end (fun wz lo hi hbz hd hR => ?_)
  have HB4 := Lib.hid (hb1.trans (hbz.mono hb1.size))
  have K1 := Lib.hid (kW.below_ hbz zW)
  have K2 := Lib.hid ((k2.below_ hb0 k2.lt).below_ hbz (by have := k2.lt; have := hb0.size; omega))
  clear hd hR p0 p1 p2 zW kW hb1 k1 k2 hb0 hbz hz0 HBX
  refine late_none ?_
  obtain ⟨x4, rfl⟩ : ∃ x4 : World, x4 = wz := ⟨_, rfl⟩
  have y0 : x4.cell? ⟨w.heap.size + 1, 0, none⟩ = some (.slice none 0 0) := (K2.out.cell_ 0).trans (by simp)
  have y1 : x4.cell? ⟨w.heap.size + 1, 1, none⟩ = some (.slice none 0 0) := (K2.out.cell_ 1).trans (by simp)
  have y2 : x4.cell? ⟨w.heap.size + 1, 2, none⟩ = some (.slice none 0 0) := (K2.out.cell_ 2).trans (by simp)
  have g0 := K2.out.frozen_ 0
  have g1 := K2.out.frozen_ 1
  have g2 := K2.out.frozen_ 2
  go_wp2_with fail
  refine bodyPost_ret (v := .tuple #[.agg #[.slice none 0 0, .slice none 0 0, .slice none 0 0], .int .i64 0, .int .i64 0, .int .i64 z]) (by simp [results, Try.results13, go_sem, y0, y1, y2]) rfl ?_
  exact ⟨none, none, none, 0, 0, 0, rfl, inMem_none _, NewL.none_ _, ((HB4.out.setCell (p := ⟨w.heap.size + 1, 0, none⟩) (by simp) _).setCell (p := ⟨w.heap.size + 1, 1, none⟩) (by simp) _).setCell (p := ⟨w.heap.size + 1, 2, none⟩) (by simp) _⟩

set_option maxRecDepth 100000 in
set_option maxHeartbeats 4000000 in
theorem Step_ok (A1 A2 A3 : Option Addr) (c1 c2 c3 : Nat) (xs ys : List Int) (rs : List Bool) (T : Int) (w : World) (h : InMem w A1 A2 A3 xs ys rs) (hz : sndS xs ys rs (tgtB T) = 0) :
    Calls Try.prog 13 #[.agg #[.slice A1 xs.length c1, .slice A2 ys.length c2, .slice A3 rs.length c3], .int .i64 T] w (SQ (fullS T xs ys rs) w) := by
  obtain ⟨⟨R1, R2, R3, R4, R5⟩, hR_⟩ : ∃ R, stepS T xs ys rs = R := ⟨_, rfl⟩
  have HE : Hid (fullS T xs ys rs = ⟨R1, R2, R3, R4, R5, 0⟩) := by show _ = _; unfold fullS; rw [hz, if_neg (by simp), hR_]
  rw [HE.out]
  have HC := Lib.hid (snd_ok hz).1
  have HRR := Lib.hid hR_
  have HM := Lib.hid h; have HZ := Lib.hid hz
  clear h hz hR_
  obtain ⟨z, hz⟩ : ∃ z : Int, z = 0 := ⟨_, rfl⟩
  rw [← hz] at HZ
  have HZ0 := Lib.hid hz
  clear hz
  obtain ⟨X, hX⟩ : ∃ X, (w.alloc (.cells #[.slice A1 xs.length c1, .slice A2 ys.length c2, .slice A3 rs.length c3] 25)).alloc (.cells #[.slice none 0 0, .slice none 0 0, .slice none 0 0] 25) = X := ⟨_, rfl⟩
  have k1 : Blk X w.heap.size 25 #[.slice A1 xs.length c1, .slice A2 ys.length c2, .slice A3 rs.length c3] := by rw [← hX]; exact (Blk.new_ rfl rfl).alloc_ _
  have k2 : Blk X (w.heap.size + 1) 25 #[.slice none 0 0, .slice none 0 0, .slice none 0 0] := by rw [← hX]; exact Blk.new_ (by simp) rfl
  have HBX : Hid (Below w.heap.size w X) := by show Below _ _ _; rw [← hX]; exact ((Below.refl _ _).alloc (Nat.le_refl _) _).alloc (by simp) _
  go_enter Try.func13, Try.ntmps13
  go_wp2_with fail
  (try rw [hX])
  clear hX
  refine wp_region_chain2 [1, 0, 1, 1, 0] [[], [], [], [], []] [.kn ?fan0, .is ?fan1, .kn (.bool (tgtB T)), .kn (.int .i64 z), .is ?fan4] (by rfl) (by rfl) (by kernel_rfl) (by kernel_rfl) (by kernel_rfl) (by kernel_rfl) (by kernel_rfl) (by kernel_rfl) (lts_kn (lts_is (lts_kn (lts_kn (lts_is lts_nil))))) (fun W0 hb0 hz0 => ?_)
  rotate_left 3
  rw [show lateIdx [1, 0, 1, 1, 0] = [] from by rfl]
  have hb1 := HBX.out.trans (hb0.mono HBX.out.size)
  have kW := k1.below_ hb0 k1.lt
  have zW := kW.lt
  have p0 : W0.cell? ⟨w.heap.size, 0, none⟩ = some (.slice A1 xs.length c1) := (kW.cell_ 0).trans (by simp)
  have p1 : W0.cell? ⟨w.heap.size, 1, none⟩ = some (.slice A2 ys.length c2) := (kW.cell_ 1).trans (by simp)
  have p2 : W0.cell? ⟨w.heap.size, 2, none⟩ = some (.slice A3 rs.length c3) := (kW.cell_ 2).trans (by simp)
  refine chn_kn (stp_take (by rfl) ?yan0) ?ran0
  case yan0 =>
    intro w hbw hd
    have r0 := cell_keep hbw p0 zW
    have r1 := cell_keep hbw p1 zW
    have r2 := cell_keep hbw p2 zW
    clear hd
    go_simp
    first | done | with_reducible rfl
  (try simp only [Act.put, List.setIfInBounds_toArray, List.set_cons_zero, List.set_cons_succ, List.nil_append, List.cons_append, Nat.reduceAdd])
  refine chn_is (stp_pure (by rfl) ?yan1) ?ran1
  case yan1 =>
    intro w
    go_simp
    first | done | with_reducible rfl
  (try simp only [Act.put, List.setIfInBounds_toArray, List.set_cons_zero, List.set_cons_succ, List.nil_append, List.cons_append, Nat.reduceAdd])
  refine chn_kn ?san2 ?ran2
  case san2 =>
    intro w hbw hd K Q' hK
    clear hd
    go_simp
    refine (isTarget_any T _).mono ?_
    rintro e y ⟨rfl, rfl⟩
    go_wp2_with fail
    refine hK.out (.bool (tgtB T)) _ _ ?_ ?_ rfl
    · (simp only [Act.put, List.setIfInBounds_toArray, List.set_cons_zero, List.set_cons_succ, List.nil_append, List.cons_append, Nat.reduceAdd])
    · exact (by repeat' (first | with_reducible exact Below.refl _ _ | with_reducible assumption | with_reducible apply Below.drew | with_reducible apply below_drewN | with_reducible apply Below.alloc | with_reducible apply Below.setCell | (with_reducible refine Below.trans ?_ (Below.mono (by assumption) ?_)) | (simp; done) | (simp; omega) | omega | with_reducible apply le_size_alloc | with_reducible apply le_size_drewN | with_reducible apply le_size_drew | with_reducible apply le_size_setCell | with_reducible refine Nat.le_trans ?_ (Below.size (by assumption))))
  (try simp only [Act.put, List.setIfInBounds_toArray, List.set_cons_zero, List.set_cons_succ, List.nil_append, List.cons_append, Nat.reduceAdd])
  refine chn_kn ?san3 ?ran3
  case san3 =>
    intro w hbw hd K Q' hK
    clear hd
    go_simp
    refine (sound_any A1 A2 A3 c1 c2 c3 xs ys rs (tgtB T) _ (HM.out.ext (hb1.trans (hbw.mono hb1.size)))).mono ?_
    rw [HZ.out]
    rintro e y ⟨rfl, hy⟩
    go_wp2_with fail
    refine hK.out (.int .i64 z) _ _ ?_ ?_ rfl
    · (simp only [Act.put, List.setIfInBounds_toArray, List.set_cons_zero, List.set_cons_succ, List.nil_append, List.cons_append, Nat.reduceAdd])
    · exact (by repeat' (first | with_reducible exact Below.refl _ _ | with_reducible assumption | with_reducible apply Below.drew | with_reducible apply below_drewN | with_reducible apply Below.alloc | with_reducible apply Below.setCell | (with_reducible refine Below.trans ?_ (Below.mono (by assumption) ?_)) | (simp; done) | (simp; omega) | omega | with_reducible apply le_size_alloc | with_reducible apply le_size_drewN | with_reducible apply le_size_drew | with_reducible apply le_size_setCell | with_reducible refine Nat.le_trans ?_ (Below.size (by assumption))))
  (try simp only [Act.put, List.setIfInBounds_toArray, List.set_cons_zero, List.set_cons_succ, List.nil_append, List.cons_append, Nat.reduceAdd])
  refine chn_is (stp_pure (by rfl) ?yan4) ?ran4
  case yan4 =>
    intro w
    go_simp
    first | done | with_reducible rfl
  (try simp only [Act.put, List.setIfInBounds_toArray, List.set_cons_zero, List.set_cons_succ, List.nil_append, List.cons_append, Nat.reduceAdd])
  refine chn_end (fun wz lo hi hbz hd hR => ?_)
  have HB4 := Lib.hid (hb1.trans (hbz.mono hb1.size))
  have K1 := Lib.hid (kW.below_ hbz zW)
  have K2 := Lib.hid ((k2.below_ hb0 k2.lt).below_ hbz (by have := k2.lt; have := hb0.size; omega))
  clear hd hR p0 p1 p2 zW kW hb1 k1 k2 hb0 hbz hz0 HBX
  refine late_none ?_
  obtain ⟨x4, rfl⟩ : ∃ x4 : World, x4 = wz := ⟨_, rfl⟩
  have hz := HZ0.out
  subst hz
  have kl2 := K2.out.lt
  have q0 : x4.cell? ⟨w.heap.size, 0, none⟩ = some (.slice A1 xs.length c1) := (K1.out.cell_ 0).trans (by simp)
  have q1 : x4.cell? ⟨w.heap.size, 1, none⟩ = some (.slice A2 ys.length c2) := (K1.out.cell_ 1).trans (by simp)
  have q2 : x4.cell? ⟨w.heap.size, 2, none⟩ = some (.slice A3 rs.length c3) := (K1.out.cell_ 2).trans (by simp)
  go_wp2_with fail
  refine (twin_any A1 A2 A3 c1 c2 c3 xs ys rs _ (HM.out.ext HB4.out) (by have := chk_len HC.out; omega) (by have := chk_len HC.out; omega) (by have := chk_len HC.out; omega)).mono ?_
  rintro e x6 ⟨D1, D2, D3, f1, f2, f3, rfl, hm6, hn6, hb6⟩
  have HM6 := Lib.hid hm6; have HN6 := Lib.hid hn6
  have z46 := hb6.size
  have K26 := Lib.hid (K2.out.below_ hb6 kl2)
  have HB6 := Lib.hid (HB4.out.trans (hb6.mono HB4.out.size))
  clear q0 q1 q2 hm6 hn6 hb6 K1 K2 HB4
  go_wp2_with fail
  have kl6 := K26.out.lt
  obtain ⟨V, hV⟩ : ∃ V, x6.alloc (.cells #[.slice D1 xs.length f1, .slice D2 ys.length f2, .slice D3 rs.length f3, .int .i64 T, .int .i64 0, .int .u64 0, .int .u64 0, .int .u64 0, .int .u64 0] 66) = V := ⟨_, rfl⟩
  have hbV : Below x6.heap.size x6 V := by rw [← hV]; exact (Below.refl _ _).alloc (Nat.le_refl _) _
  have KV : WK V x6.heap.size D1 D2 D3 f1 f2 f3 xs ys rs T 0 [] := by
    refine ⟨?_, HM6.out.ext hbV, HM6.out.neZ fun k e => by omega⟩
    rw [← hV]
    exact Blk.new_ rfl rfl
  (try rw [hV])
  refine (step_any x6.heap.size D1 D2 D3 f1 f2 f3 xs ys rs T 0 [] V KV HC.out).mono ?_
  rw [HRR.out]
  rintro e x7 ⟨rfl, B1, B2, B3, d1, d2, d3, k7, n7, a7⟩
  dsimp only at k7 ⊢
  have zV := hbV.size
  have HB7 : Hid (Below w.heap.size w x7) := (HB6.out.trans (hbV.mono HB6.out.size)).trans (a7.below (Nat.le_trans HB6.out.size zV) fun k hk e => by have := HB6.out.size; omega)
  have K27 : Blk x7 (w.heap.size + 1) 25 #[.slice none 0 0, .slice none 0 0, .slice none 0 0] := a7.blk (K26.out.below_ hbV kl6) (by omega)
  have hkl := K27.lt
  have HN7 : Hid (NewL (w.heap.size + 2) B1 B2 B3) := by
    have h1 : w.heap.size + 2 ≤ x4.heap.size := by omega
    rcases n7 with ⟨rfl, rfl, rfl, _⟩ | n7
    · exact HN6.out.mono h1
    · exact n7.mono (by omega)
  have hb7 := k7.blk.lt
  clear a7 n7 KV hbV
  have p0 : x7.cell? ⟨x6.heap.size, 0, none⟩ = some (.slice B1 R3.length d1) := (k7.blk.cell_ 0).trans (by simp)
  have p1 : x7.cell? ⟨x6.heap.size, 1, none⟩ = some (.slice B2 R4.length d2) := (k7.blk.cell_ 1).trans (by simp)
  have p2 : x7.cell? ⟨x6.heap.size, 2, none⟩ = some (.slice B3 R5.length d3) := (k7.blk.cell_ 2).trans (by simp)
  have p4 : x7.cell? ⟨x6.heap.size, 4, none⟩ = some (.int .i64 R2) := (k7.blk.cell_ 4).trans (by simp)
  have y0 : x7.cell? ⟨w.heap.size + 1, 0, none⟩ = some (.slice none 0 0) := (K27.cell_ 0).trans (by simp)
  have y1 : x7.cell? ⟨w.heap.size + 1, 1, none⟩ = some (.slice none 0 0) := (K27.cell_ 1).trans (by simp)
  have y2 : x7.cell? ⟨w.heap.size + 1, 2, none⟩ = some (.slice none 0 0) := (K27.cell_ 2).trans (by simp)
  have g0 := K27.frozen_ 0
  have g1 := K27.frozen_ 1
  have g2 := K27.frozen_ 2
  have nbb : x6.heap.size ≠ w.heap.size + 1 := by omega
  have nbc : w.heap.size + 1 ≠ x6.heap.size := by omega
  have HMZ := Lib.hid k7.mem
  clear k7
  go_wp2_with fail
  go_region
  all_goals
    go_wp2_with fail
    refine bodyPost_ret (v := .tuple #[.agg #[.slice B1 R3.length d1, .slice B2 R4.length d2, .slice B3 R5.length d3], .int .i64 R1, .int .i64 R2, .int .i64 0]) (by simp [results, Try.results13, go_sem, y0, y1, y2]) rfl ?_
    refine ⟨B1, B2, B3, d1, d2, d3, rfl, ?_, HN7.out.mono (by omega), ?_⟩
    · exact step_mem HMZ.out HN7.out
    · exact step_below HB7.out
theorem Step_any (A1 A2 A3 : Option Addr) (c1 c2 c3 : Nat) (xs ys : List Int) (rs : List Bool) (T : Int) (w : World) (h : InMem w A1 A2 A3 xs ys rs) :
    Calls Try.prog 13 #[.agg #[.slice A1 xs.length c1, .slice A2 ys.length c2, .slice A3 rs.length c3], .int .i64 T] w (SQ (fullS T xs ys rs) w) := by
  by_cases h0 : sndS xs ys rs (tgtB T) = 0
  · exact Step_ok A1 A2 A3 c1 c2 c3 xs ys rs T w h h0
  · exact Step_bad A1 A2 A3 c1 c2 c3 xs ys rs T w h rfl h0
end Go.Proofs.Ytiobbdfkimpfbaa
