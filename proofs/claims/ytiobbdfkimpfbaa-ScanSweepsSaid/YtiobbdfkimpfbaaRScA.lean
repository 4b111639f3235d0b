/- headgateref30.sweep. Written by gen_rsca.py. -/
import Derived.Test.YtiobbdfkimpfbaaScPl
import Derived.Test.YtiobbdfkimpfbaaMgA
import Derived.Test.YtiobbdfkimpfbaaMgB
namespace Go.Proofs.Ytiobbdfkimpfbaa
set_option linter.unusedSimpArgs false
set_option linter.unusedVariables false
open Go.RowKit Go.Maps

/-- A variable of lists that lies in block B. -/
structure LV (w : World) (B : Nat) (A1 A2 A3 : Option Addr) (c1 c2 c3 : Nat) (xs ys : List Int) (rs : List Bool) : Prop where
  blk : Blk w B 25 #[.slice A1 xs.length c1, .slice A2 ys.length c2, .slice A3 rs.length c3]
  mem : InMem w A1 A2 A3 xs ys rs
  ne : NeB B A1 A2 A3 xs ys rs
section
variable {w w' : World} {B : Nat} {A1 A2 A3 : Option Addr} {c1 c2 c3 : Nat} {xs ys : List Int} {rs : List Bool}
theorem LV.ext (h : LV w B A1 A2 A3 c1 c2 c3 xs ys rs) (hb : Below w.heap.size w w') : LV w' B A1 A2 A3 c1 c2 c3 xs ys rs :=
  ⟨h.blk.below_ hb h.blk.lt, h.mem.ext hb, h.ne⟩
theorem LV.aside {Z : Nat → Prop} (h : LV w B A1 A2 A3 c1 c2 c3 xs ys rs) (ha : Aside Z w w') (hB : ¬ Z B) (hn : NeZ Z A1 A2 A3 xs ys rs) : LV w' B A1 A2 A3 c1 c2 c3 xs ys rs :=
  ⟨ha.blk h.blk hB, h.mem.aside ha hn, h.ne⟩
/-- Other lists are stored. -/
theorem LV.put (h : LV w B A1 A2 A3 c1 c2 c3 xs ys rs) {E1 E2 E3 : Option Addr} {us vs : List Int} {ss : List Bool} (e1 e2 e3 : Nat)
    (hm : InMem w E1 E2 E3 us vs ss) (hn : NeB B E1 E2 E3 us vs ss) {U : World} (hU : (((w.setCell ⟨B, 0, none⟩ (.slice E1 us.length e1)).setCell ⟨B, 1, none⟩ (.slice E2 vs.length e2)).setCell ⟨B, 2, none⟩ (.slice E3 ss.length e3)) = U) : LV U B E1 E2 E3 e1 e2 e3 us vs ss := by
  subst hU
  refine ⟨?_, ((hm.set_ hn _ _).set_ hn _ _).set_ hn _ _, hn⟩
  simpa using ((h.blk.set_ 0 (.slice E1 us.length e1)).set_ 1 (.slice E2 vs.length e2)).set_ 2 (.slice E3 ss.length e3)
end
theorem lv_put {w U : World} {B : Nat} {u0 u1 u2 : Value} (h : Blk w B 25 #[u0, u1, u2]) {E1 E2 E3 : Option Addr} {us vs : List Int} {ss : List Bool} (e1 e2 e3 : Nat)
    (hm : InMem w E1 E2 E3 us vs ss) (hn : NeB B E1 E2 E3 us vs ss) (hU : (((w.setCell ⟨B, 0, none⟩ (.slice E1 us.length e1)).setCell ⟨B, 1, none⟩ (.slice E2 vs.length e2)).setCell ⟨B, 2, none⟩ (.slice E3 ss.length e3)) = U) : LV U B E1 E2 E3 e1 e2 e3 us vs ss := by
  subst hU
  refine ⟨?_, ((hm.set_ hn _ _).set_ hn _ _).set_ hn _ _, hn⟩
  simpa using ((h.set_ 0 (.slice E1 us.length e1)).set_ 1 (.slice E2 vs.length e2)).set_ 2 (.slice E3 ss.length e3)
theorem aside_grown {w w' : World} {row : Option Nat} (h : w.grownBy w' row) : Aside (fun b => row = some b) w w' := ⟨h.os, h.tape, h.output, h.size, fun k hk hn => h.block k hk fun e => hn e.symm⟩
theorem set3_aside (w : World) (B : Nat) (a b c : Value) : Aside (fun k => k = B) w (((w.setCell ⟨B, 0, none⟩ a).setCell ⟨B, 1, none⟩ b).setCell ⟨B, 2, none⟩ c) :=
  (((Aside.refl (fun k => k = B) w).setCell (p := ⟨B, 0, none⟩) (.inr rfl) a).setCell (p := ⟨B, 1, none⟩) (.inr rfl) b).setCell (p := ⟨B, 2, none⟩) (.inr rfl) c

/-- Two rows of a call's own that lie apart. -/
structure TwoR (W : World) (base : Nat) (X : Option Addr) (xc : Nat) (v : List Int) (Y : Option Addr) (yc : Nat) (mo : List Int) : Prop where
  x : Own W base 3 (.int .i64) (.slice X v.length xc) v
  y : Own W base 3 (.int .i64) (.slice Y mo.length yc) mo
  ne : ∀ g, X.map (·.block) = some g → Y.map (·.block) ≠ some g
section
variable {W W' : World} {base : Nat} {X Y : Option Addr} {xc yc : Nat} {v mo : List Int}
theorem TwoR.ext (h : TwoR W base X xc v Y yc mo) (hb : Below W.heap.size W W') : TwoR W' base X xc v Y yc mo := ⟨h.x.below hb, h.y.below hb, h.ne⟩
theorem TwoR.aside {Z : Nat → Prop} (h : TwoR W base X xc v Y yc mo) (ha : Aside Z W W') (hx : ∀ g, X.map (·.block) = some g → ¬ Z g) (hy : ∀ g, Y.map (·.block) = some g → ¬ Z g) : TwoR W' base X xc v Y yc mo := ⟨h.x.aside ha hx, h.y.aside ha hy, h.ne⟩
theorem TwoR.swap (h : TwoR W base X xc v Y yc mo) : TwoR W base Y yc mo X xc v := ⟨h.y, h.x, fun g e e' => h.ne g e' e⟩
theorem TwoR.app (h : TwoR W base X xc v Y yc mo) {A : Option Addr} {c : Nat} {zs : List Int} (ho : Own W' base 3 (.int .i64) (.slice A zs.length c) zs) (hg : W.grownBy W' (X.map (·.block)))
    (hl : A.map (·.block) = X.map (·.block) ∨ ∃ g, A.map (·.block) = some g ∧ W.heap.size ≤ g) : TwoR W' base A c zs Y yc mo := by
  refine ⟨ho, h.y.aside (aside_grown hg) fun g e e' => h.ne g e' e, fun g e e' => ?_⟩
  rcases hl with e2 | ⟨g', e2, hge⟩
  · exact h.ne g (e2.symm.trans e) e'
  · have := (h.y.block g e').2
    rw [e2] at e; injection e with e; omega
end
/-- What a sweep gives back: lists, victims, frames moved. -/
def RwQ (R : SwR) (w : World) (e : Ending) (w' : World) : Prop :=
  ∃ B1 B2 B3 d1 d2 d3 X xc Y yc, e = .returned (.tuple #[.agg #[.slice B1 R.xs.length d1, .slice B2 R.ys.length d2, .slice B3 R.rs.length d3], .slice X R.vic.length xc, .slice Y R.mov.length yc]) ∧ InMem w' B1 B2 B3 R.xs R.ys R.rs ∧ NewL w.heap.size B1 B2 B3 ∧ Sl w' (.int .i64) X R.vic ∧ Sl w' (.int .i64) Y R.mov ∧ (∀ g, X.map (·.block) = some g → w.heap.size ≤ g) ∧ (∀ g, Y.map (·.block) = some g → w.heap.size ≤ g) ∧ Below w.heap.size w w'
/-- What is left of a sweep. -/
def SwLeft (T : Int) (n k : Nat) (R : SwR) (us vs : List Int) (ss : List Bool) (v mo : List Int) : Prop :=
  (swS T (n - k) us vs ss).xs = R.xs ∧ (swS T (n - k) us vs ss).ys = R.ys ∧ (swS T (n - k) us vs ss).rs = R.rs ∧ v ++ (swS T (n - k) us vs ss).vic = R.vic ∧ mo ++ (swS T (n - k) us vs ss).mov = R.mov
theorem SwLeft.step {T : Int} {n k : Nat} {R : SwR} {us vs : List Int} {ss : List Bool} {v mo : List Int} (h : SwLeft T n k R us vs ss v mo) (hk : k < n) (hs : (nxtS T us vs ss).1 ≠ 0) :
    SwLeft T n (k + 1) R (nxX T us vs ss) (nxY T us vs ss) (nxR T us vs ss) (if (nxtS T us vs ss).1 = 3 then v ++ [(nxtS T us vs ss).2.1] else v) (if (nxtS T us vs ss).1 = 3 then mo else mo ++ [(nxtS T us vs ss).2.1]) := by
  unfold SwLeft at h ⊢
  rw [show n - k = (n - (k + 1)) + 1 by omega, swS_go hs] at h
  obtain ⟨h1, h2, h3, h4, h5⟩ := h
  dsimp only at h1 h2 h3 h4 h5
  refine ⟨h1, h2, h3, ?_, ?_⟩
  · rw [← h4]; split
    · rw [List.append_assoc]; rfl
    · rfl
  · rw [← h5]; split
    · rfl
    · rw [List.append_assoc]; rfl
theorem SwLeft.stop {T : Int} {n k : Nat} {R : SwR} {us vs : List Int} {ss : List Bool} {v mo : List Int} (h : SwLeft T n k R us vs ss v mo) (hs : (nxtS T us vs ss).1 = 0 ∨ n ≤ k) : R = ⟨us, vs, ss, v, mo⟩ := by
  unfold SwLeft at h
  have e : swS T (n - k) us vs ss = ⟨us, vs, ss, [], []⟩ := by
    rcases hs with hs | hs
    · exact swS_stop hs _
    · rw [show n - k = 0 by omega]; rfl
  rw [e] at h
  obtain ⟨h1, h2, h3, h4, h5⟩ := h
  obtain ⟨R1, R2, R3, R4, R5⟩ := R
  dsimp only at h1 h2 h3 h4 h5
  rw [List.append_nil] at h4 h5
  subst h1 h2 h3 h4 h5
  rfl
/-- A step of the reference, and a sweep's step. -/
theorem full_nxt {T : Int} {us vs : List Int} {ss : List Bool} (hc : lruChk us vs ss = 0) (ht : tgtB T = true) : fullS T us vs ss = ⟨(stepS T us vs ss).1, (stepS T us vs ss).2.1, (stepS T us vs ss).2.2.1, (stepS T us vs ss).2.2.2.1, (stepS T us vs ss).2.2.2.2, 0⟩ := by
  unfold fullS sndS
  rw [hc, ht]
  rfl
theorem nxt_of_step {T : Int} {us vs : List Int} {ss : List Bool} : ((stepS T us vs ss).1 = 3 → (nxtS T us vs ss).1 = 3 ∧ (nxtS T us vs ss).2.1 = (stepS T us vs ss).2.1 ∧ nxX T us vs ss = wo (stepS T us vs ss).2.1 (stepS T us vs ss).2.2.1 ∧ nxY T us vs ss = wo (stepS T us vs ss).2.1 (stepS T us vs ss).2.2.2.1 ∧ nxR T us vs ss = (stepS T us vs ss).2.2.2.2.set (stepS T us vs ss).2.1.toNat false) ∧
    ((stepS T us vs ss).1 ≠ 3 → (nxtS T us vs ss).1 = (stepS T us vs ss).1 ∧ (nxtS T us vs ss).2.1 = (stepS T us vs ss).2.1 ∧ nxX T us vs ss = (stepS T us vs ss).2.2.1 ∧ nxY T us vs ss = (stepS T us vs ss).2.2.2.1 ∧ nxR T us vs ss = (stepS T us vs ss).2.2.2.2) := by
  unfold nxX nxY nxR
  refine ⟨fun h => ?_, fun h => ?_⟩
  · rw [nxt_step, if_pos h]; exact ⟨rfl, rfl, rfl, rfl, rfl⟩
  · rw [nxt_step, if_neg h]; exact ⟨rfl, rfl, rfl, rfl, rfl⟩
/-- The frame that a step finds is in the lists. -/
theorem rem_of_step {T : Int} {us vs : List Int} {ss : List Bool} (hc : lruChk us vs ss = 0) (h : (stepS T us vs ss).1 = 3) : remS (stepS T us vs ss).2.2.1 (stepS T us vs ss).2.2.2.1 (stepS T us vs ss).2.2.2.2 (stepS T us vs ss).2.1 = ⟨wo (stepS T us vs ss).2.1 (stepS T us vs ss).2.2.1, wo (stepS T us vs ss).2.1 (stepS T us vs ss).2.2.2.1, (stepS T us vs ss).2.2.2.2.set (stepS T us vs ss).2.1.toNat false, 0⟩ := by
  unfold stepS at h ⊢
  by_cases h0 : 0 < us.length ∧ (vs.length : Int) < T
  · rw [if_pos h0] at h; exact absurd h (by simp)
  · rw [if_neg h0] at h ⊢
    by_cases h1 : vs.length = 0
    · rw [if_pos h1] at h; exact absurd h (by simp)
    · rw [if_neg h1] at h ⊢
      by_cases h2 : lastB vs ss = true
      · rw [if_pos h2] at h; exact absurd h (by simp)
      · rw [if_neg h2]
        have hm : lastF vs ∈ us ++ vs := by simp [lastF_mem (show 0 < vs.length by omega)]
        have hr := (valid_of_chk hc).range _ hm
        unfold remS
        rw [show lruChd us vs ss (lastF vs) = 0 by unfold lruChd; rw [if_neg (by simpa using hc), if_pos hr], if_neg (by simp), if_neg]
        unfold fWhere
        rcases List.mem_append.1 hm with hx | hy
        · rw [if_pos hx]; decide
        · split
          · decide
          · first | decide | (rw [if_pos hy]; decide)

set_option maxRecDepth 100000 in
set_option maxHeartbeats 16000000 in
theorem Rsweep_any (A1 A2 A3 : Option Addr) (c1 c2 c3 : Nat) (xs ys : List Int) (rs : List Bool) (T : Int) (n : Nat) (w : World) (h : InMem w A1 A2 A3 xs ys rs) (hc : lruChk xs ys rs = 0) (ht : tgtB T = true) (hn : n ≤ 2000) :
    Calls Try.prog 53 #[.agg #[.slice A1 xs.length c1, .slice A2 ys.length c2, .slice A3 rs.length c3], .int .i64 T, .int .i64 n] w (RwQ (swS T n xs ys rs) w) := by
  obtain ⟨i0, hi0, hz0, hz1, hz2⟩ := info_parts intInfo
  have HM := Lib.hid h; have HC0 := Lib.hid hc; have HT := Lib.hid ht
  clear h hc ht
  obtain ⟨R, hR⟩ : ∃ R, swS T n xs ys rs = R := ⟨_, rfl⟩
  rw [hR]
  have HL0 : Hid (SwLeft T n 0 R xs ys rs [] []) := by show SwLeft _ _ _ _ _ _ _ _ _; rw [← hR]; exact ⟨rfl, rfl, rfl, rfl, rfl⟩
  clear hR
  obtain ⟨X, hX⟩ : ∃ X, (w.alloc (.cells #[.slice A1 xs.length c1, .slice A2 ys.length c2, .slice A3 rs.length c3] 25)).alloc (.cells #[.slice none 0 0, .slice none 0 0, .slice none 0 0] 25) = X := ⟨_, rfl⟩
  have k1 : Blk X w.heap.size 25 #[.slice A1 xs.length c1, .slice A2 ys.length c2, .slice A3 rs.length c3] := by rw [← hX]; exact (Blk.new_ rfl rfl).alloc_ _
  have HK2 : Hid (Blk X (w.heap.size + 1) 25 #[.slice none 0 0, .slice none 0 0, .slice none 0 0]) := by show Blk _ _ _ _; rw [← hX]; exact Blk.new_ (by simp) rfl
  have HBX : Hid (Below w.heap.size w X) := by show Below _ _ _; rw [← hX]; exact ((Below.refl _ _).alloc (Nat.le_refl _) _).alloc (by simp) _
  have HLV : Hid (LV X w.heap.size A1 A2 A3 c1 c2 c3 xs ys rs) := ⟨k1, HM.out.ext HBX.out, HM.out.neZ fun k e => by omega⟩
  have szX : w.heap.size + 2 ≤ X.heap.size := by rw [← hX]; simp
  clear k1
  go_enter Try.func53, Try.ntmps53
  go_wp2_with fail
  (try rw [hX])
  clear hX
  go_loopw [9, 10, 11] (fun sv sm i wr => ∃ (k : Nat) (us vs : List Int) (ss : List Bool) (A1 A2 A3 : Option Addr) (c1 c2 c3 : Nat) (Q : Option Addr) (xc : Nat) (v : List Int) (Y : Option Addr) (yc : Nat) (mo : List Int), k ≤ n ∧ i = .int .i64 k ∧ sv = .slice Q v.length xc ∧ sm = .slice Y mo.length yc ∧ Hid (LV wr w.heap.size A1 A2 A3 c1 c2 c3 us vs ss) ∧ Hid (TwoR wr (w.heap.size + 2) Q xc v Y yc mo) ∧
      Hid (Blk wr (w.heap.size + 1) 25 #[.slice none 0 0, .slice none 0 0, .slice none 0 0]) ∧ Hid (Below w.heap.size w wr) ∧ Hid (lruChk us vs ss = 0) ∧ Hid (SwLeft T n k R us vs ss v mo) ∧ w.heap.size + 2 ≤ wr.heap.size ∧ v.length ≤ k ∧ mo.length ≤ k) (fun _ _ i _ => n - (intOf i).toNat)
  case atStart => exact ⟨0, xs, ys, rs, A1, A2, A3, c1, c2, c3, none, 0, [], none, 0, [], by omega, rfl, rfl, rfl, HLV, ⟨World.ownsRow_nil _ _ _ _, World.ownsRow_nil _ _ _ _, by simp⟩, HK2, HBX, HC0, HL0, szX, by simp, by simp⟩
  case round =>
    clear HLV HK2 HBX HC0 HL0 szX HM
    obtain ⟨k, us, vs, ss, A1, A2, A3, c1, c2, c3, Q, xc, v, Y, yc, mo, hk, rfl, rfl, rfl, HLV, HTW, HK2, HB, HC, HSL, hsz, hvl, hml⟩ := hrel
    have p0 : wr.cell? ⟨w.heap.size, 0, none⟩ = some (.slice A1 us.length c1) := (HLV.out.blk.cell_ 0).trans (by simp)
    have p1 : wr.cell? ⟨w.heap.size, 1, none⟩ = some (.slice A2 vs.length c2) := (HLV.out.blk.cell_ 1).trans (by simp)
    have p2 : wr.cell? ⟨w.heap.size, 2, none⟩ = some (.slice A3 ss.length c3) := (HLV.out.blk.cell_ 2).trans (by simp)
    have zr := HLV.out.blk.lt
    by_cases hlt : k < n
    · obtain ⟨⟨wh, f, ps, qs, ws⟩, hS⟩ : ∃ S, stepS T us vs ss = S := ⟨_, rfl⟩
      have HF := Lib.hid (full_nxt (T := T) HC.out HT.out)
      have hone := step_one (T := T) HC.out
      have hnx := nxt_of_step (T := T) (us := us) (vs := vs) (ss := ss)
      have hrm := rem_of_step (T := T) HC.out
      have hnc := (nxt_ok (T := T) HC.out).chk
      rw [hS] at HF hone hnx hrm
      dsimp only at HF hone hnx hrm
      have i1 : (k : Int) < n := by omega
      have hwk : IntKind.i64.wrap (k : Int) = k := by rw [IntKind.wrap_i64]; omega
      have wlo := hone.lo
      have whi := hone.hi
      rcases (by omega : wh = 0 ∨ (wh = 1 ∨ wh = 2) ∨ wh = 3) with rfl | hw12 | rfl
      · obtain ⟨-, g1, g2, g3, -⟩ := hone.none rfl
        have hst := HSL.out.stop (.inl (hnx.2 (by omega)).1)
        obtain rfl := g1.symm
        obtain rfl := g2.symm
        obtain rfl := g3.symm
        subst hst
        (try dsimp only)
        clear hone hnx hrm hnc hS HSL
        go_wp2_with fail
        refine (RStep_any A1 A2 A3 c1 c2 c3 us vs ss T _ HLV.out.mem).mono ?_
        unfold SQ
        rw [HF.out]
        rintro e x4 ⟨E1, E2, E3, e1, e2, e3, rfl, hm4, hn4, h4⟩
        dsimp only at hm4 hn4 ⊢
        have hs4 := h4.size
        have HLV4 := Lib.hid (HLV.out.ext h4)
        have HTW4 := Lib.hid (HTW.out.ext h4)
        have HK4 := Lib.hid (HK2.out.below_ h4 HK2.out.lt)
        have HB4 := Lib.hid (HB.out.trans (h4.mono HB.out.size))
        have HM4 := Lib.hid hm4
        have HN4 := Lib.hid hn4
        have HQ := Lib.hid (show (∀ g, Q.map (·.block) = some g → g < wr.heap.size) ∧ (∀ g, Y.map (·.block) = some g → g < wr.heap.size) from ⟨fun g e => (HTW.out.x.block g e).2, fun g e => (HTW.out.y.block g e).2⟩)
        clear hm4 hn4 h4 p0 p1 p2 HLV HTW HK2 HB HF
        obtain ⟨W4, hW4⟩ : ∃ W, x4.alloc (.cells #[.slice E1 us.length e1, .slice E2 vs.length e2, .slice E3 ss.length e3] 25) = W := ⟨_, rfl⟩
        have hbW : Below x4.heap.size x4 W4 := by rw [← hW4]; exact (Below.refl _ _).alloc (Nat.le_refl _) _
        have KN : Hid (Blk W4 x4.heap.size 25 #[.slice E1 us.length e1, .slice E2 vs.length e2, .slice E3 ss.length e3]) := by show Blk _ _ _ _; rw [← hW4]; exact Blk.new_ rfl rfl
        have HLV5 := Lib.hid (HLV4.out.ext hbW)
        have HTW5 := Lib.hid (HTW4.out.ext hbW)
        have HK5 := Lib.hid (HK4.out.below_ hbW HK4.out.lt)
        have HB5 := Lib.hid (HB4.out.trans (hbW.mono HB4.out.size))
        have HM5 := Lib.hid (HM4.out.ext hbW)
        have hs5 := KN.out.lt
        have HW4 := Lib.hid hW4
        clear hW4 hbW HLV4 HTW4 HK4 HB4 HM4 HN4 HQ
        have hlen := chk_len HC.out
        have p0 : W4.cell? ⟨w.heap.size, 0, none⟩ = some (.slice A1 us.length c1) := (HLV5.out.blk.cell_ 0).trans (by simp)
        have p1 : W4.cell? ⟨w.heap.size, 1, none⟩ = some (.slice A2 vs.length c2) := (HLV5.out.blk.cell_ 1).trans (by simp)
        have p2 : W4.cell? ⟨w.heap.size, 2, none⟩ = some (.slice A3 ss.length c3) := (HLV5.out.blk.cell_ 2).trans (by simp)
        go_wp2_with (rw [HW4.out])
        refine (Sown_any A1 A2 A3 c1 c2 c3 us vs ss _ HLV5.out.mem.a HLV5.out.mem.i HLV5.out.mem.r (by omega) (by omega) (by omega)).mono ?_
        rintro e x9 ⟨F1, f1, F2, f2, F3, f3, rfl, ho9, h9⟩
        have HO9 := Lib.hid ho9
        have HK9 := Lib.hid (HK5.out.below_ h9 HK5.out.lt)
        have HB9 := Lib.hid (HB5.out.trans (h9.mono HB5.out.size))
        have HX9 := Lib.hid (own_sl (HTW5.out.x.below h9))
        have HY9 := Lib.hid (own_sl (HTW5.out.y.below h9))
        have HXb := Lib.hid (fun g e => (HTW5.out.x.block g e).1)
        have HYb := Lib.hid (fun g e => (HTW5.out.y.block g e).1)
        have hs9 := h9.size
        have kl := HK9.out.lt
        clear ho9 h9 p0 p1 p2
        have y0 : x9.cell? ⟨w.heap.size + 1, 0, none⟩ = some (.slice none 0 0) := (HK9.out.cell_ 0).trans (by simp)
        have y1 : x9.cell? ⟨w.heap.size + 1, 1, none⟩ = some (.slice none 0 0) := (HK9.out.cell_ 1).trans (by simp)
        have y2 : x9.cell? ⟨w.heap.size + 1, 2, none⟩ = some (.slice none 0 0) := (HK9.out.cell_ 2).trans (by simp)
        have g0 := HK9.out.frozen_ 0
        have g1 := HK9.out.frozen_ 1
        have g2 := HK9.out.frozen_ 2
        go_wp2_with fail
        refine bodyPost_ret (v := .tuple #[.agg #[.slice F1 us.length f1, .slice F2 vs.length f2, .slice F3 ss.length f3], .slice Q v.length xc, .slice Y mo.length yc]) (by simp [results, Try.results53, go_sem, y0, y1, y2]) rfl ?_
        refine ⟨F1, F2, F3, f1, f2, f3, Q, xc, Y, yc, rfl, ?_, ?_, ?_, ?_, (fun g e => by have := HXb.out g e; omega), (fun g e => by have := HYb.out g e; omega), ?_⟩
        · have hmm := HO9.out.memV HC.out
          have hnn : NeB (w.heap.size + 1) F1 F2 F3 us vs ss := HO9.out.new_.neB (by omega) _ _ _
          exact ((hmm.set_ hnn _ _).set_ hnn _ _).set_ hnn _ _
        · exact HO9.out.new_.mono (by omega)
        · exact (((HX9.out.far_ (fun g e => by have := HXb.out g e; omega) _ _).far_ (fun g e => by have := HXb.out g e; omega) _ _).far_ (fun g e => by have := HXb.out g e; omega) _ _)
        · exact (((HY9.out.far_ (fun g e => by have := HYb.out g e; omega) _ _).far_ (fun g e => by have := HYb.out g e; omega) _ _).far_ (fun g e => by have := HYb.out g e; omega) _ _)
        · exact (((HB9.out.setCell (p := ⟨w.heap.size + 1, 0, none⟩) (by show w.heap.size ≤ w.heap.size + 1; omega) _).setCell (p := ⟨w.heap.size + 1, 1, none⟩) (by show w.heap.size ≤ w.heap.size + 1; omega) _).setCell (p := ⟨w.heap.size + 1, 2, none⟩) (by show w.heap.size ≤ w.heap.size + 1; omega) _)
      · have hw0 : wh ≠ 0 := by omega
        have hw3 : wh ≠ 3 := by omega
        have ew0 : (wh == 0) = false := by simpa using hw0
        have ew3 : (wh == 3) = false := by simpa using hw3
        obtain ⟨n1, n2, n3, n4, n5⟩ := hnx.2 hw3
        have hsl := HSL.out.step hlt (by rw [n1]; exact hw0)
        rw [n1, n2, n3, n4, n5, if_neg hw3, if_neg hw3] at hsl
        rw [show (nxtS T us vs ss).2.2.1 = nxX T us vs ss from rfl, show (nxtS T us vs ss).2.2.2.1 = nxY T us vs ss from rfl, show (nxtS T us vs ss).2.2.2.2 = nxR T us vs ss from rfl, n3, n4, n5] at hnc
        have HSL2 := Lib.hid hsl
        have HC2 := Lib.hid hnc
        clear hsl hnc hnx hrm hone hS HSL n1 n2 n3 n4 n5 hw12
        go_wp2_with fail
        refine (RStep_any A1 A2 A3 c1 c2 c3 us vs ss T _ HLV.out.mem).mono ?_
        unfold SQ
        rw [HF.out]
        rintro e x4 ⟨E1, E2, E3, e1, e2, e3, rfl, hm4, hn4, h4⟩
        dsimp only at hm4 hn4 ⊢
        have hs4 := h4.size
        have HLV4 := Lib.hid (HLV.out.ext h4)
        have HTW4 := Lib.hid (HTW.out.ext h4)
        have HK4 := Lib.hid (HK2.out.below_ h4 HK2.out.lt)
        have HB4 := Lib.hid (HB.out.trans (h4.mono HB.out.size))
        have HM4 := Lib.hid hm4
        have HN4 := Lib.hid hn4
        have HQ := Lib.hid (show (∀ g, Q.map (·.block) = some g → g < wr.heap.size) ∧ (∀ g, Y.map (·.block) = some g → g < wr.heap.size) from ⟨fun g e => (HTW.out.x.block g e).2, fun g e => (HTW.out.y.block g e).2⟩)
        clear hm4 hn4 h4 p0 p1 p2 HLV HTW HK2 HB HF
        obtain ⟨W4, hW4⟩ : ∃ W, x4.alloc (.cells #[.slice E1 ps.length e1, .slice E2 qs.length e2, .slice E3 ws.length e3] 25) = W := ⟨_, rfl⟩
        have hbW : Below x4.heap.size x4 W4 := by rw [← hW4]; exact (Below.refl _ _).alloc (Nat.le_refl _) _
        have KN : Hid (Blk W4 x4.heap.size 25 #[.slice E1 ps.length e1, .slice E2 qs.length e2, .slice E3 ws.length e3]) := by show Blk _ _ _ _; rw [← hW4]; exact Blk.new_ rfl rfl
        have HLV5 := Lib.hid (HLV4.out.ext hbW)
        have HTW5 := Lib.hid (HTW4.out.ext hbW)
        have HK5 := Lib.hid (HK4.out.below_ hbW HK4.out.lt)
        have HB5 := Lib.hid (HB4.out.trans (hbW.mono HB4.out.size))
        have HM5 := Lib.hid (HM4.out.ext hbW)
        have hs5 := KN.out.lt
        obtain ⟨zs, hzs⟩ : ∃ zs, mo ++ [f] = zs := ⟨_, rfl⟩
        have HZS := Lib.hid hzs
        have hzl : zs.length = mo.length + 1 := by rw [← hzs]; simp
        have hsf : Sl (W4.alloc (.cells #[.int .i64 f] 3)) (Value.int .i64) (some ⟨W4.heap.size, 0, none⟩) [f] := Sl.of_lit (t := 3) (Blk.new_ rfl rfl)
        have HSF := Lib.hid hsf
        have hba : Below W4.heap.size W4 (W4.alloc (.cells #[.int .i64 f] 3)) := (Below.refl _ _).alloc (Nat.le_refl _) _
        have HTWA := Lib.hid (HTW5.out.swap.ext hba)
        have HLVA := Lib.hid (HLV5.out.ext hba)
        have HKA := Lib.hid (HK5.out.below_ hba HK5.out.lt)
        have HBA := Lib.hid (HB5.out.trans (hba.mono HB5.out.size))
        have HMA := Lib.hid (HM5.out.ext hba)
        have KNA := Lib.hid (KN.out.below_ hba KN.out.lt)
        have HW4 := Lib.hid hW4
        clear hsf hba hzs hW4 HTW5 HLV5 HK5 HB5 HM5 KN hbW HLV4 HTW4 HK4 HB4 HM4
        go_wp2_with (first
          | (rw [HW4.out])
          | (at_builtin; refine wpList_appS (mk := Value.int .i64) _ rfl (.tmp 43) (.tmp 45) _ rfl 3 i0 _ 8 Try.underlying22 hi0 hz0 hz1 hz2 rfl (w.heap.size + 2) Y yc mo rfl HTWA.out.x (some ⟨W4.heap.size, 0, none⟩) 1 [f] rfl HSF.out (int_one [f]) (by simp; omega) (by simp; omega) (by simp; omega) ?_
             intro A5 c5 w5 ho5 hg5 hl5
             rw [HZS.out] at ho5
             rw [HZS.out]
             have HTW6 := Lib.hid (HTWA.out.app ho5 hg5 hl5)
             have hlow : ∀ g, Y.map (·.block) = some g → w.heap.size + 2 ≤ g ∧ g < wr.heap.size := fun g e => ⟨(HTWA.out.x.block g e).1, HQ.out.2 g e⟩
             have hblk5 : ∀ g, A5.map (·.block) = some g → (w.heap.size + 2 ≤ g ∧ g < wr.heap.size) ∨ W4.heap.size < g := fun g e => by
               rcases hl5 with e2 | ⟨g', e2, hge⟩
               · exact .inl (hlow g (e2.symm.trans e))
               · rw [e2] at e; injection e with e; simp at hge; exact .inr (by omega)
             have HBK5 := Lib.hid hblk5
             have ha5 := aside_grown hg5
             have HLV6 := Lib.hid (ha5.blk HLVA.out.blk (fun e => by have := hlow _ e; omega))
             have HK6 := Lib.hid (ha5.blk HKA.out (fun e => by have := hlow _ e; omega))
             have HM6 := Lib.hid (HMA.out.aside ha5 (HN4.out.neZ (fun b e => (hlow b e).2) _ _ _))
             have KN6 := Lib.hid (ha5.blk KNA.out (fun e => by have := hlow _ e; omega))
             have HB6 := Lib.hid (HBA.out.grown hg5 (by have := HBA.out.size; omega) (fun g e => by have := hlow g e; omega))
             have hs6 : W4.heap.size < w5.heap.size := by have := hg5.size; simp at this; omega
             have r0 : w5.cell? ⟨x4.heap.size, 0, none⟩ = some (.slice E1 ps.length e1) := (KN6.out.cell_ 0).trans (by simp)
             have r1 : w5.cell? ⟨x4.heap.size, 1, none⟩ = some (.slice E2 qs.length e2) := (KN6.out.cell_ 1).trans (by simp)
             have r2 : w5.cell? ⟨x4.heap.size, 2, none⟩ = some (.slice E3 ws.length e3) := (KN6.out.cell_ 2).trans (by simp)
             have s0 : w5.cell? ⟨w.heap.size, 0, none⟩ = some (.slice A1 us.length c1) := (HLV6.out.cell_ 0).trans (by simp)
             have s1 : w5.cell? ⟨w.heap.size, 1, none⟩ = some (.slice A2 vs.length c2) := (HLV6.out.cell_ 1).trans (by simp)
             have s2 : w5.cell? ⟨w.heap.size, 2, none⟩ = some (.slice A3 ss.length c3) := (HLV6.out.cell_ 2).trans (by simp)
             have g0 := HLV6.out.frozen_ 0
             have g1 := HLV6.out.frozen_ 1
             have g2 := HLV6.out.frozen_ 2
             have gn0 := KN6.out.frozen_ 0
             have gn1 := KN6.out.frozen_ 1
             have gn2 := KN6.out.frozen_ 2
             have nb1 : w.heap.size ≠ x4.heap.size := by omega
             have nb2 : x4.heap.size ≠ w.heap.size := by omega
             clear ho5 hg5 hl5 HTWA HLVA HKA HBA HMA KNA hlow hblk5 ha5))
        obtain ⟨U, hU⟩ : ∃ U, (((w5.setCell ⟨w.heap.size, 0, none⟩ (.slice E1 ps.length e1)).setCell ⟨w.heap.size, 1, none⟩ (.slice E2 qs.length e2)).setCell ⟨w.heap.size, 2, none⟩ (.slice E3 ws.length e3)) = U := ⟨_, rfl⟩
        have haU : Aside (fun b => b = w.heap.size) w5 U := by rw [← hU]; exact set3_aside _ _ _ _ _
        have KU := Lib.hid (lv_put HLV6.out e1 e2 e3 HM6.out (HN4.out.neB zr _ _ _) hU)
        have TU := Lib.hid (HTW6.out.aside haU (fun g e => by have := (HTW6.out.x.block g e).1; omega) (fun g e => by have := (HTW6.out.y.block g e).1; omega))
        have KK := Lib.hid (haU.blk HK6.out (by omega))
        have BU : Hid (Below w.heap.size w U) := by show Below _ _ _; rw [← hU]; exact (((HB6.out.setCell (p := ⟨w.heap.size, 0, none⟩) (Nat.le_refl _) _).setCell (p := ⟨w.heap.size, 1, none⟩) (Nat.le_refl _) _).setCell (p := ⟨w.heap.size, 2, none⟩) (Nat.le_refl _) _)
        have sU := haU.size
        (try rw [hU])
        clear hU
        go_roundw
        case rel => exact ⟨k + 1, ps, qs, ws, E1, E2, E3, e1, e2, e3, Q, xc, v, A5, c5, zs, by omega, by go_num, rfl, by rw [hzl], KU, TU.out.swap, KK, BU, HC2, (by rw [← HZS.out]; exact HSL2.out), by omega, by omega, by omega⟩
        case measure => simp [intOf]; omega
      · obtain ⟨n1, n2, n3, n4, n5⟩ := hnx.1 rfl
        have hsl := HSL.out.step hlt (by rw [n1]; decide)
        rw [n1, n2, n3, n4, n5, if_pos rfl, if_pos rfl] at hsl
        rw [show (nxtS T us vs ss).2.2.1 = nxX T us vs ss from rfl, show (nxtS T us vs ss).2.2.2.1 = nxY T us vs ss from rfl, show (nxtS T us vs ss).2.2.2.2 = nxR T us vs ss from rfl, n3, n4, n5] at hnc
        have hrm2 := hrm rfl
        obtain ⟨us2, hus2⟩ : ∃ l, wo f ps = l := ⟨_, rfl⟩
        obtain ⟨vs2, hvs2⟩ : ∃ l, wo f qs = l := ⟨_, rfl⟩
        obtain ⟨ss2, hss2⟩ : ∃ l, ws.set f.toNat false = l := ⟨_, rfl⟩
        rw [hus2, hvs2, hss2] at hsl hnc hrm2
        have HSL2 := Lib.hid hsl
        have HC2 := Lib.hid hnc
        have HRM := Lib.hid hrm2
        clear hsl hnc hnx hrm hrm2 hone hS HSL n1 n2 n3 n4 n5 hus2 hvs2 hss2
        go_wp2_with fail
        refine (RStep_any A1 A2 A3 c1 c2 c3 us vs ss T _ HLV.out.mem).mono ?_
        unfold SQ
        rw [HF.out]
        rintro e x4 ⟨E1, E2, E3, e1, e2, e3, rfl, hm4, hn4, h4⟩
        dsimp only at hm4 hn4 ⊢
        have hs4 := h4.size
        have HLV4 := Lib.hid (HLV.out.ext h4)
        have HTW4 := Lib.hid (HTW.out.ext h4)
        have HK4 := Lib.hid (HK2.out.below_ h4 HK2.out.lt)
        have HB4 := Lib.hid (HB.out.trans (h4.mono HB.out.size))
        have HM4 := Lib.hid hm4
        have HN4 := Lib.hid hn4
        have HQ := Lib.hid (show (∀ g, Q.map (·.block) = some g → g < wr.heap.size) ∧ (∀ g, Y.map (·.block) = some g → g < wr.heap.size) from ⟨fun g e => (HTW.out.x.block g e).2, fun g e => (HTW.out.y.block g e).2⟩)
        clear hm4 hn4 h4 p0 p1 p2 HLV HTW HK2 HB HF
        obtain ⟨W4, hW4⟩ : ∃ W, x4.alloc (.cells #[.slice E1 ps.length e1, .slice E2 qs.length e2, .slice E3 ws.length e3] 25) = W := ⟨_, rfl⟩
        have hbW : Below x4.heap.size x4 W4 := by rw [← hW4]; exact (Below.refl _ _).alloc (Nat.le_refl _) _
        have KN : Hid (Blk W4 x4.heap.size 25 #[.slice E1 ps.length e1, .slice E2 qs.length e2, .slice E3 ws.length e3]) := by show Blk _ _ _ _; rw [← hW4]; exact Blk.new_ rfl rfl
        have HLV5 := Lib.hid (HLV4.out.ext hbW)
        have HTW5 := Lib.hid (HTW4.out.ext hbW)
        have HK5 := Lib.hid (HK4.out.below_ hbW HK4.out.lt)
        have HB5 := Lib.hid (HB4.out.trans (hbW.mono HB4.out.size))
        have HM5 := Lib.hid (HM4.out.ext hbW)
        have hs5 := KN.out.lt
        obtain ⟨zs, hzs⟩ : ∃ zs, v ++ [f] = zs := ⟨_, rfl⟩
        have HZS := Lib.hid hzs
        have hzl : zs.length = v.length + 1 := by rw [← hzs]; simp
        have hsf : Sl (W4.alloc (.cells #[.int .i64 f] 3)) (Value.int .i64) (some ⟨W4.heap.size, 0, none⟩) [f] := Sl.of_lit (t := 3) (Blk.new_ rfl rfl)
        have HSF := Lib.hid hsf
        have hba : Below W4.heap.size W4 (W4.alloc (.cells #[.int .i64 f] 3)) := (Below.refl _ _).alloc (Nat.le_refl _) _
        have HTWA := Lib.hid (HTW5.out.ext hba)
        have HLVA := Lib.hid (HLV5.out.ext hba)
        have HKA := Lib.hid (HK5.out.below_ hba HK5.out.lt)
        have HBA := Lib.hid (HB5.out.trans (hba.mono HB5.out.size))
        have HMA := Lib.hid (HM5.out.ext hba)
        have KNA := Lib.hid (KN.out.below_ hba KN.out.lt)
        have HW4 := Lib.hid hW4
        clear hsf hba hzs hW4 HTW5 HLV5 HK5 HB5 HM5 KN hbW HLV4 HTW4 HK4 HB4 HM4
        go_wp2_with (first
          | (rw [HW4.out])
          | (at_builtin; refine wpList_appS (mk := Value.int .i64) _ rfl (.tmp 33) (.tmp 35) _ rfl 3 i0 _ 8 Try.underlying22 hi0 hz0 hz1 hz2 rfl (w.heap.size + 2) Q xc v rfl HTWA.out.x (some ⟨W4.heap.size, 0, none⟩) 1 [f] rfl HSF.out (int_one [f]) (by simp; omega) (by simp; omega) (by simp; omega) ?_
             intro A5 c5 w5 ho5 hg5 hl5
             rw [HZS.out] at ho5
             rw [HZS.out]
             have HTW6 := Lib.hid (HTWA.out.app ho5 hg5 hl5)
             have hlow : ∀ g, Q.map (·.block) = some g → w.heap.size + 2 ≤ g ∧ g < wr.heap.size := fun g e => ⟨(HTWA.out.x.block g e).1, HQ.out.1 g e⟩
             have hblk5 : ∀ g, A5.map (·.block) = some g → (w.heap.size + 2 ≤ g ∧ g < wr.heap.size) ∨ W4.heap.size < g := fun g e => by
               rcases hl5 with e2 | ⟨g', e2, hge⟩
               · exact .inl (hlow g (e2.symm.trans e))
               · rw [e2] at e; injection e with e; simp at hge; exact .inr (by omega)
             have HBK5 := Lib.hid hblk5
             have ha5 := aside_grown hg5
             have HLV6 := Lib.hid (ha5.blk HLVA.out.blk (fun e => by have := hlow _ e; omega))
             have HK6 := Lib.hid (ha5.blk HKA.out (fun e => by have := hlow _ e; omega))
             have HM6 := Lib.hid (HMA.out.aside ha5 (HN4.out.neZ (fun b e => (hlow b e).2) _ _ _))
             have KN6 := Lib.hid (ha5.blk KNA.out (fun e => by have := hlow _ e; omega))
             have HB6 := Lib.hid (HBA.out.grown hg5 (by have := HBA.out.size; omega) (fun g e => by have := hlow g e; omega))
             have hs6 : W4.heap.size < w5.heap.size := by have := hg5.size; simp at this; omega
             have r0 : w5.cell? ⟨x4.heap.size, 0, none⟩ = some (.slice E1 ps.length e1) := (KN6.out.cell_ 0).trans (by simp)
             have r1 : w5.cell? ⟨x4.heap.size, 1, none⟩ = some (.slice E2 qs.length e2) := (KN6.out.cell_ 1).trans (by simp)
             have r2 : w5.cell? ⟨x4.heap.size, 2, none⟩ = some (.slice E3 ws.length e3) := (KN6.out.cell_ 2).trans (by simp)
             have s0 : w5.cell? ⟨w.heap.size, 0, none⟩ = some (.slice A1 us.length c1) := (HLV6.out.cell_ 0).trans (by simp)
             have s1 : w5.cell? ⟨w.heap.size, 1, none⟩ = some (.slice A2 vs.length c2) := (HLV6.out.cell_ 1).trans (by simp)
             have s2 : w5.cell? ⟨w.heap.size, 2, none⟩ = some (.slice A3 ss.length c3) := (HLV6.out.cell_ 2).trans (by simp)
             have g0 := HLV6.out.frozen_ 0
             have g1 := HLV6.out.frozen_ 1
             have g2 := HLV6.out.frozen_ 2
             have gn0 := KN6.out.frozen_ 0
             have gn1 := KN6.out.frozen_ 1
             have gn2 := KN6.out.frozen_ 2
             have nb1 : w.heap.size ≠ x4.heap.size := by omega
             have nb2 : x4.heap.size ≠ w.heap.size := by omega
             clear ho5 hg5 hl5 HTWA HLVA HKA HBA HMA KNA hlow hblk5 ha5))
        refine (RRemove_S E1 E2 E3 e1 e2 e3 ps qs ws w5 HM6.out f).mono ?_
        unfold LPost
        rw [HRM.out]
        rintro e x7 ⟨F1, f1, F2, f2, F3, f3, rfl, hm7, hn7, h7⟩
        dsimp only at hm7 hn7 ⊢
        have hs7 := h7.size
        have HLV7 := Lib.hid (HLV6.out.below_ h7 HLV6.out.lt)
        have HTW7 := Lib.hid (HTW6.out.ext h7)
        have HK7 := Lib.hid (HK6.out.below_ h7 HK6.out.lt)
        have HB7 := Lib.hid (HB6.out.trans (h7.mono HB6.out.size))
        have KN7 := Lib.hid (KN6.out.below_ h7 KN6.out.lt)
        have HM7 := Lib.hid hm7
        have HN7 := Lib.hid hn7
        clear hm7 hn7 h7 r0 r1 r2 s0 s1 s2 g0 g1 g2 gn0 gn1 gn2 HLV6 HK6 HB6 KN6 HM6
        have r0 : x7.cell? ⟨x4.heap.size, 0, none⟩ = some (.slice E1 ps.length e1) := (KN7.out.cell_ 0).trans (by simp)
        have r1 : x7.cell? ⟨x4.heap.size, 1, none⟩ = some (.slice E2 qs.length e2) := (KN7.out.cell_ 1).trans (by simp)
        have r2 : x7.cell? ⟨x4.heap.size, 2, none⟩ = some (.slice E3 ws.length e3) := (KN7.out.cell_ 2).trans (by simp)
        have s0 : x7.cell? ⟨w.heap.size, 0, none⟩ = some (.slice A1 us.length c1) := (HLV7.out.cell_ 0).trans (by simp)
        have s1 : x7.cell? ⟨w.heap.size, 1, none⟩ = some (.slice A2 vs.length c2) := (HLV7.out.cell_ 1).trans (by simp)
        have s2 : x7.cell? ⟨w.heap.size, 2, none⟩ = some (.slice A3 ss.length c3) := (HLV7.out.cell_ 2).trans (by simp)
        have g0 := HLV7.out.frozen_ 0
        have g1 := HLV7.out.frozen_ 1
        have g2 := HLV7.out.frozen_ 2
        have gn0 := KN7.out.frozen_ 0
        have gn1 := KN7.out.frozen_ 1
        have gn2 := KN7.out.frozen_ 2
        go_wp2_with fail
        obtain ⟨W8, hW8⟩ : ∃ U, (((x7.setCell ⟨x4.heap.size, 0, none⟩ (.slice F1 us2.length f1)).setCell ⟨x4.heap.size, 1, none⟩ (.slice F2 vs2.length f2)).setCell ⟨x4.heap.size, 2, none⟩ (.slice F3 ss2.length f3)) = U := ⟨_, rfl⟩
        have ha8 : Aside (fun b => b = x4.heap.size) x7 W8 := by rw [← hW8]; exact set3_aside _ _ _ _ _
        have HLV8 := Lib.hid (ha8.blk HLV7.out (by omega))
        have HTW8 := Lib.hid (HTW7.out.aside ha8 (fun g e => by rcases HBK5.out g e with h | h <;> omega) (fun g e => by have := HQ.out.2 g e; omega))
        have HK8 := Lib.hid (ha8.blk HK7.out (by omega))
        have HB8 := Lib.hid (HB7.out.trans (ha8.below (by have := HB7.out.size; omega) (fun k hk => by omega)))
        have HM8 := Lib.hid (HM7.out.aside ha8 (HN7.out.neZ (fun b e => by omega) _ _ _))
        (try rw [hW8])
        obtain ⟨U, hU⟩ : ∃ U, (((W8.setCell ⟨w.heap.size, 0, none⟩ (.slice F1 us2.length f1)).setCell ⟨w.heap.size, 1, none⟩ (.slice F2 vs2.length f2)).setCell ⟨w.heap.size, 2, none⟩ (.slice F3 ss2.length f3)) = U := ⟨_, rfl⟩
        have haU : Aside (fun b => b = w.heap.size) W8 U := by rw [← hU]; exact set3_aside _ _ _ _ _
        have KU := Lib.hid (lv_put HLV8.out f1 f2 f3 HM8.out (HN7.out.neB (by omega) _ _ _) hU)
        have TU := Lib.hid (HTW8.out.aside haU (fun g e => by have := (HTW8.out.x.block g e).1; omega) (fun g e => by have := (HTW8.out.y.block g e).1; omega))
        have KK := Lib.hid (haU.blk HK8.out (by omega))
        have BU : Hid (Below w.heap.size w U) := by show Below _ _ _; rw [← hU]; exact (((HB8.out.setCell (p := ⟨w.heap.size, 0, none⟩) (Nat.le_refl _) _).setCell (p := ⟨w.heap.size, 1, none⟩) (Nat.le_refl _) _).setCell (p := ⟨w.heap.size, 2, none⟩) (Nat.le_refl _) _)
        have sU := haU.size
        (try rw [hU])
        clear hU hW8
        go_roundw
        case rel => exact ⟨k + 1, us2, vs2, ss2, F1, F2, F3, f1, f2, f3, A5, c5, zs, Y, yc, mo, by omega, by go_num, by rw [hzl], rfl, KU, TU, KK, BU, HC2, (by rw [← HZS.out]; exact HSL2.out), by have := ha8.size; omega, by omega, by omega⟩
        case measure => simp [intOf]; omega
    · obtain rfl : k = n := by omega
      obtain rfl := HSL.out.stop (.inr (Nat.le_refl _))
      (try dsimp only)
      have hlen := chk_len HC.out
      have p0 : wr.cell? ⟨w.heap.size, 0, none⟩ = some (.slice A1 us.length c1) := (HLV.out.blk.cell_ 0).trans (by simp)
      have p1 : wr.cell? ⟨w.heap.size, 1, none⟩ = some (.slice A2 vs.length c2) := (HLV.out.blk.cell_ 1).trans (by simp)
      have p2 : wr.cell? ⟨w.heap.size, 2, none⟩ = some (.slice A3 ss.length c3) := (HLV.out.blk.cell_ 2).trans (by simp)
      go_wp2_with fail
      refine (Sown_any A1 A2 A3 c1 c2 c3 us vs ss _ HLV.out.mem.a HLV.out.mem.i HLV.out.mem.r (by omega) (by omega) (by omega)).mono ?_
      rintro e x9 ⟨F1, f1, F2, f2, F3, f3, rfl, ho9, h9⟩
      have HO9 := Lib.hid ho9
      have HK9 := Lib.hid (HK2.out.below_ h9 HK2.out.lt)
      have HB9 := Lib.hid (HB.out.trans (h9.mono HB.out.size))
      have HX9 := Lib.hid (own_sl (HTW.out.x.below h9))
      have HY9 := Lib.hid (own_sl (HTW.out.y.below h9))
      have HXb := Lib.hid (fun g e => (HTW.out.x.block g e).1)
      have HYb := Lib.hid (fun g e => (HTW.out.y.block g e).1)
      have hs9 := h9.size
      have kl := HK9.out.lt
      clear ho9 h9 p0 p1 p2
      have y0 : x9.cell? ⟨w.heap.size + 1, 0, none⟩ = some (.slice none 0 0) := (HK9.out.cell_ 0).trans (by simp)
      have y1 : x9.cell? ⟨w.heap.size + 1, 1, none⟩ = some (.slice none 0 0) := (HK9.out.cell_ 1).trans (by simp)
      have y2 : x9.cell? ⟨w.heap.size + 1, 2, none⟩ = some (.slice none 0 0) := (HK9.out.cell_ 2).trans (by simp)
      have g0 := HK9.out.frozen_ 0
      have g1 := HK9.out.frozen_ 1
      have g2 := HK9.out.frozen_ 2
      go_wp2_with fail
      refine bodyPost_ret (v := .tuple #[.agg #[.slice F1 us.length f1, .slice F2 vs.length f2, .slice F3 ss.length f3], .slice Q v.length xc, .slice Y mo.length yc]) (by simp [results, Try.results53, go_sem, y0, y1, y2]) rfl ?_
      refine ⟨F1, F2, F3, f1, f2, f3, Q, xc, Y, yc, rfl, ?_, ?_, ?_, ?_, (fun g e => by have := HXb.out g e; omega), (fun g e => by have := HYb.out g e; omega), ?_⟩
      · have hmm := HO9.out.memV HC.out
        have hnn : NeB (w.heap.size + 1) F1 F2 F3 us vs ss := HO9.out.new_.neB (by omega) _ _ _
        exact ((hmm.set_ hnn _ _).set_ hnn _ _).set_ hnn _ _
      · exact HO9.out.new_.mono (by omega)
      · exact (((HX9.out.far_ (fun g e => by have := HXb.out g e; omega) _ _).far_ (fun g e => by have := HXb.out g e; omega) _ _).far_ (fun g e => by have := HXb.out g e; omega) _ _)
      · exact (((HY9.out.far_ (fun g e => by have := HYb.out g e; omega) _ _).far_ (fun g e => by have := HYb.out g e; omega) _ _).far_ (fun g e => by have := HYb.out g e; omega) _ _)
      · exact (((HB9.out.setCell (p := ⟨w.heap.size + 1, 0, none⟩) (by show w.heap.size ≤ w.heap.size + 1; omega) _).setCell (p := ⟨w.heap.size + 1, 1, none⟩) (by show w.heap.size ≤ w.heap.size + 1; omega) _).setCell (p := ⟨w.heap.size + 1, 2, none⟩) (by show w.heap.size ≤ w.heap.size + 1; omega) _)
end Go.Proofs.Ytiobbdfkimpfbaa
