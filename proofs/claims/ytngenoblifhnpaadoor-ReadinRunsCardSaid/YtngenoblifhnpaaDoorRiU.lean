/- readin.run and Run: events one after the other, by a range over a function. -/
import Derived.Test.YtngenoblifhnpaaDoorRiR5
import Derived.Test.YtngenoblifhnpaaDoorRange
import Derived.Test.YtngenoblifhnpaaDoorRow
import Derived.Test.YtngenoblifhnpaaDoorFree2
import Derived.RangeFuncBound
import Derived.RangeFuncCalls
import Derived.RangeFuncLeaves
import Derived.Shelf.Abstract
import Derived.Shelf.RegionOpen
import Derived.OwnWalkIn
import Derived.TacticsInMore
import Derived.LoopNIn
import Derived.LoopIn
namespace Go.Proofs.YtngenoblifhnpaaDoor
open Go.RowKit Go.Maps
open Go.Shelf
attribute [local go_sem] Oper.semAt_some

/-- A change: frame, role. -/
def chgE : Elt Tryd.prog (Int × Int) where
  e := 49
  s := 45
  sz := 2
  bytes := 16
  z := .agg #[.int .i64 0, .int .i64 0]
  enc x := [.int .i64 x.1, .int .i64 x.2]
  hs := Tryd.underlying45
  hi := by kernel_rfl
  hz := rfl
  hlen _ := rfl
  hone _ u hu := by simp at hu; rcases hu with rfl | rfl <;> rfl
  pos := by decide
  few := by decide
theorem chg_at {w : World} {A : Option Addr} {l : List (Int × Int)} {k : Nat} (h : SR chgE w A l) (hk : k < l.length) :
    ∃ b off x, A = some ⟨b, off, none⟩ ∧ b < w.heap.size ∧ l[k]? = some x ∧ w.cell? ⟨b, off + k * 2, none⟩ = some (.int .i64 x.1) ∧ w.cell? ⟨b, off + k * 2 + 1, none⟩ = some (.int .i64 x.2) := by
  obtain ⟨b, off, x, e, hb, hx, hc⟩ := h.at_ hk
  exact ⟨b, off, x, e, hb, hx, hc 0 _ rfl, hc 1 _ rfl⟩

/-- What the iterator hands over: the access behind each event, and its error; it ends behind the first error. -/
def seqU : RI → List (Int × Int) → List (RI × Int)
  | _, [] => []
  | r, c :: t => ((stpR r c.2 c.1).1, (stpR r c.2 c.1).2.2.2) :: if (stpR r c.2 c.1).2.2.2 = 0 then seqU (stpR r c.2 c.1).1 t else []
theorem seqU_len : ∀ (l : List (Int × Int)) (r : RI), (seqU r l).length ≤ l.length
  | [], _ => by simp [seqU]
  | c :: t, r => by
    have := seqU_len t (stpR r c.2 c.1).1
    unfold seqU
    split
    · simpa using this
    · simp
/-- Run of a valid access: the last access, how many events, the error. -/
def runU : RI → List (Int × Int) → RI × Int × Int
  | r, [] => (r, 0, 0)
  | r, c :: t => if (stpR r c.2 c.1).2.2.2 = 0 then ((runU (stpR r c.2 c.1).1 t).1, (runU (stpR r c.2 c.1).1 t).2.1 + 1, (runU (stpR r c.2 c.1).1 t).2.2) else (r, 0, (stpR r c.2 c.1).2.2.2)
/-- Run. -/
def runR (r : RI) (l : List (Int × Int)) : RI × Int × Int := if chkR r = 0 then runU r l else ((0, 0, 0), 0, chkR r)

theorem AL.aside {Z : Nat → Prop} {w w' : World} (h : AL w) (ha : Aside Z w w') (hz : ¬ Z 0) : AL w' := ⟨Nat.lt_of_lt_of_le h.1 ha.size, fun i x hx => ha.cell (p := ⟨0, i, none⟩) (h.2 i x hx) hz⟩

set_option maxRecDepth 100000 in
set_option maxHeartbeats 2000000 in
theorem run_any (s f g : Int) (A : Option Addr) (c m : Nat) (w : World) :
    Calls Tryd.prog 41 #[.agg #[.int .i64 s, .int .i64 f, .int .i64 g], .slice A m c] w fun e w' =>
      e = .returned (.func (.func 49) #[] #[.pointer (some ⟨w.heap.size + 1, 0, none⟩), .pointer (some ⟨w.heap.size, 0, none⟩)]) ∧ w' = (w.alloc (.cells #[.int .i64 s, .int .i64 f, .int .i64 g] 23)).alloc (.cells #[.slice A m c] 45) := by
  go_enter Tryd.func41, Tryd.ntmps41
  go_wp2
  go_ret
  exact ⟨rfl, rfl⟩

set_option maxRecDepth 100000 in
set_option maxHeartbeats 4000000 in
theorem run1_in (F : Fence) (n : Nat) (h6 : F.fn 49) (hro : F.round = none) (hn : 1 ≤ n) (hwide : F = Fence.wide) (Br Bl : Nat) (A : Option Addr) (c : Nat) (l : List (Int × Int)) (r : RI) (Cb : Nat → Prop) (w : World) (hs : SR chgE w A l) (ll : l.length ≤ 20) (hal : AL w)
    (hr : Blk w Br 23 #[.int .i64 r.1, .int .i64 r.2.1, .int .i64 r.2.2]) (hb : Blk w Bl 45 #[.slice A l.length c]) (h0r : Br ≠ 0) (hrl : Br ≠ Bl) (hrA : l ≠ [] → ∀ q, A.map (·.block) = some q → q ≠ Br)
    (hCw : ∀ b, Cb b → b < w.heap.size) (hC0 : ¬ Cb 0) (hCr : ¬ Cb Br) (hCl : ¬ Cb Bl) (hCA : l ≠ [] → ∀ q, A.map (·.block) = some q → ¬ Cb q) :
    SeqG F n Tryd.prog 49 #[.pointer (some ⟨Bl, 0, none⟩), .pointer (some ⟨Br, 0, none⟩)] (fun x : RI × Int => #[.agg #[.int .i64 x.1.1, .int .i64 x.1.2.1, .int .i64 x.1.2.2], .int .i64 x.2]) (fun _ _ => True) (fun b => b = Br) Cb
      (fun ys => ys = seqU r l) (fun pre => pre <+: seqU r l) l.length w := by
  intro lp J Jx W hW hl1 hl2 hJ hY hJx h0
  subst hwide
  have HS := Lib.hid hs
  have hbr := hr.lt; have hbl := hb.lt
  clear hs
  refine callsIn_of_wp Tryd.func49 rfl h6 ?_ hro
  simp only [Tryd.ntmps49, List.size_toArray, List.length_cons, List.length_nil, Nat.reduceAdd, Nat.reduceSub, Array.replicate_succ, Array.replicate_zero, List.push_toArray, List.append_toArray, List.nil_append, List.cons_append]
  have c0 := (hb.below_ hW hbl).cell_ 0
  simp at c0
  gi_wp2
  have HW := Lib.hid hW
  have hwW := hW.size
  clear c0 hW
  gi_loopw [12] (fun i wr => ∃ (k : Nat) (r' : RI) (pre : List (RI × Int)) (G : Nat → Prop), k ≤ l.length ∧ i = .int .i64 k ∧ Hid (seqU r l = pre ++ seqU r' (l.drop k)) ∧ Hid (pre.length = k) ∧ J pre G wr ∧ Hid (∀ b, G b → W.heap.size ≤ b ∧ b < wr.heap.size) ∧ W.heap.size ≤ wr.heap.size ∧
    Hid (SR chgE wr A l) ∧ Hid (AL wr) ∧ Hid (Blk wr Br 23 #[.int .i64 r'.1, .int .i64 r'.2.1, .int .i64 r'.2.2])) (fun i _ => l.length - (intOf i).toNat)
  case atStart =>
    refine ⟨0, r, [], fun _ => False, Nat.zero_le _, rfl, ?_, ?_, h0, ?_, Nat.le_refl _, HS.out.ext HW.out, hal.ext HW.out, hr.below_ HW.out hbr⟩
    · show _ = _; simp
    · show _ = _; rfl
    · show ∀ b, _; exact fun b hb => hb.elim
  case round =>
    obtain ⟨k, ⟨s, f, g⟩, pre, G, hk, rfl, HQ, HP, hj, HG, hsz, HSR, HAL, HBR⟩ := hrel
    by_cases hlt : k < l.length
    · obtain ⟨b, off, ⟨fr, ro⟩, rfl, hbA, hx, q0, q1⟩ := chg_at HSR.out hlt
      have i1 : (k : Int) < l.length := by omega
      obtain ⟨⟨⟨t0, t1, t2⟩, fl, mp, z⟩, hst⟩ : ∃ R, stpR (s, f, g) ro fr = R := ⟨_, rfl⟩
      have HST := Lib.hid hst
      have HQ2 : Hid (seqU r l = pre ++ (((t0, t1, t2), z) :: if z = 0 then seqU (t0, t1, t2) (l.drop (k + 1)) else [])) := by
        show _ = _
        rw [HQ.out]
        obtain ⟨hk', e⟩ := List.getElem?_eq_some_iff.1 hx
        rw [List.drop_eq_getElem_cons hk', e]
        simp only [seqU, hst]
      have hbl2 : b < wr.heap.size := hbA
      have hbrl := HBR.out.lt
      have HX := Lib.hid hx
      clear hst hx HQ
      have p0 : wr.cell? ⟨Br, 0, none⟩ = some (.int .i64 s) := (HBR.out.cell_ 0).trans (by simp)
      have p1 : wr.cell? ⟨Br, 1, none⟩ = some (.int .i64 f) := (HBR.out.cell_ 1).trans (by simp)
      have p2 : wr.cell? ⟨Br, 2, none⟩ = some (.int .i64 g) := (HBR.out.cell_ 2).trans (by simp)
      have nb : Br ≠ wr.heap.size := by omega
      gi_wp2_with fail
      refine ⟨trivial, (callsIn_wide.2 (Step_any s f g ro fr _ (HAL.out.ext ((Below.refl _ wr).alloc (Nat.le_refl _) (.cells #[.int .i64 fr, .int .i64 ro] 49))))).mono ?_⟩
      unfold StpPost
      rw [HST.out]
      rintro e x1 ⟨A1, c1, rfl, hi1, hx1⟩
      have BX : Below wr.heap.size wr x1 := box_below hx1
      have zx := BX.size
      obtain ⟨V, hV⟩ : ∃ V, x1.alloc (.cells #[.int .i64 t0, .int .i64 t1, .int .i64 t2] 23) = V := ⟨_, rfl⟩
      have BV : Below wr.heap.size wr V := by rw [← hV]; exact BX.alloc zx _
      have kV : Blk V x1.heap.size 23 #[.int .i64 t0, .int .i64 t1, .int .i64 t2] := by rw [← hV]; exact Blk.new_ rfl rfl
      have v0 : V.cell? ⟨x1.heap.size, 0, none⟩ = some (.int .i64 t0) := (kV.cell_ 0).trans (by simp)
      have v1 : V.cell? ⟨x1.heap.size, 1, none⟩ = some (.int .i64 t1) := (kV.cell_ 1).trans (by simp)
      have v2 : V.cell? ⟨x1.heap.size, 2, none⟩ = some (.int .i64 t2) := (kV.cell_ 2).trans (by simp)
      have zV := BV.size
      have j1 : J pre G V := hJ pre G wr V hj hsz (Aside.of_below BV)
      have HGV : Hid (∀ b, G b → W.heap.size ≤ b ∧ b < V.heap.size) := by show ∀ b, _; exact fun b hb => by have := HG.out b hb; omega
      obtain ⟨fn1, tmps1, assign1, body1, hy1, hR1⟩ := hY pre ((t0, t1, t2), z) G V j1 trivial (by have := HP.out; omega) (by omega) HGV.out
      dsimp only at hy1
      have HKV := Lib.hid kV
      have HBV := Lib.hid BV
      have klt := kV.lt
      clear hi1 hx1 q0 q1 p0 p1 p2 hj BX BV kV
      gi_wp2_with fail
      refine hR1.mono ?_
      clear hR1 hy1 hV
      have nG : ∀ q, q < W.heap.size → ¬ G q := fun q hq hg => by have := HG.out q hg; omega
      rintro e W2 (⟨rfl, has, j2⟩ | ⟨rfl, jx⟩)
      · have hz2 := has.size
        have HAS := Lib.hid has
        have nt : ∀ q, q < w.heap.size → ¬ Cb q → ¬ (G q ∨ Cb q ∨ q = lp) := fun q hq hc hh => by
          rcases hh with hh | hh | hh
          · exact nG q (by omega) hh
          · exact hc hh
          · omega
        have n6 : ¬ (G x1.heap.size ∨ Cb x1.heap.size ∨ x1.heap.size = lp) := fun hh => by
          rcases hh with hh | hh | hh
          · have := HG.out _ hh; omega
          · have := hCw _ hh; omega
          · omega
        have u0 : W2.cell? ⟨x1.heap.size, 0, none⟩ = some (.int .i64 t0) := HAS.out.cell (p := ⟨x1.heap.size, 0, none⟩) v0 n6
        have u1 : W2.cell? ⟨x1.heap.size, 1, none⟩ = some (.int .i64 t1) := HAS.out.cell (p := ⟨x1.heap.size, 1, none⟩) v1 n6
        have u2 : W2.cell? ⟨x1.heap.size, 2, none⟩ = some (.int .i64 t2) := HAS.out.cell (p := ⟨x1.heap.size, 2, none⟩) v2 n6
        clear v0 v1 v2
        have HB2 := Lib.hid (HAS.out.blk (HBR.out.below_ HBV.out hbrl) (nt Br hbr hCr))
        have HG2 : Hid (∀ q, Gn G V W2 q → W.heap.size ≤ q ∧ q < W2.heap.size) := by
          show ∀ q, _
          intro q hq
          rcases hq with hq | hq
          · have := HG.out q hq; omega
          · omega
        have p0 : W2.cell? ⟨Br, 0, none⟩ = some (.int .i64 s) := (HB2.out.cell_ 0).trans (by simp)
        have p1 : W2.cell? ⟨Br, 1, none⟩ = some (.int .i64 f) := (HB2.out.cell_ 1).trans (by simp)
        have p2 : W2.cell? ⟨Br, 2, none⟩ = some (.int .i64 g) := (HB2.out.cell_ 2).trans (by simp)
        have f0 := HB2.out.frozen_ 0
        have f1 := HB2.out.frozen_ 1
        have f2 := HB2.out.frozen_ 2
        have hbr2 := HB2.out.lt
        by_cases hz : z = 0
        · subst hz
          have HQ3 : Hid (seqU r l = (pre ++ [((t0, t1, t2), 0)]) ++ seqU (t0, t1, t2) (l.drop (k + 1))) := by show _ = _; rw [HQ2.out]; simp
          gi_wp2
          go_roundw
          case rel =>
            obtain ⟨X, hX⟩ : ∃ X, ((W2.setCell ⟨Br, 0, none⟩ (.int .i64 t0)).setCell ⟨Br, 1, none⟩ (.int .i64 t1)).setCell ⟨Br, 2, none⟩ (.int .i64 t2) = X := ⟨_, rfl⟩
            have aX : Aside (fun q => q = Br) W2 X := by
              rw [← hX]
              exact (((Aside.refl (fun q => q = Br) W2).setCell (p := ⟨Br, 0, none⟩) (.inr rfl) _).setCell (p := ⟨Br, 1, none⟩) (.inr rfl) _).setCell (p := ⟨Br, 2, none⟩) (.inr rfl) _
            have kX : Blk X Br 23 #[.int .i64 t0, .int .i64 t1, .int .i64 t2] := by rw [← hX]; simpa using ((HB2.out.set_ 0 (.int .i64 t0)).set_ 1 (.int .i64 t1)).set_ 2 (.int .i64 t2)
            rw [hX]
            have zX := aX.size
            refine ⟨k + 1, (t0, t1, t2), pre ++ [((t0, t1, t2), 0)], Gn G V W2, by omega, by go_num, HQ3.out, ?_, ?_, ?_, by omega, ?_, ?_, kX⟩
            · show _ = _; have := HP.out; simp; omega
            · refine hJ _ _ W2 X j2 (by omega) (aX.wide fun q hq e ht => ?_)
              subst e
              rcases ht with ht | ht
              · have := HG2.out _ ht; omega
              · exact ht.2 rfl
            · show ∀ q, _; exact fun q hq => by have := HG2.out q hq; omega
            · have h1 : SR chgE W2 (some ⟨b, off, none⟩) l := HAS.out.sl (HSR.out.ext HBV.out) (fun q e => by simp at e; subst e; exact nt b (Nat.lt_of_lt_of_le (by obtain ⟨b', o', e', hb', _⟩ := HS.out (SR.len_pos (by omega)); injection e' with e'; injection e' with e'; subst e'; exact hb') (Nat.le_refl _)) (hCA (fun e => by subst e; simp at hlt) b rfl))
              exact aX.sl h1 (fun q e => by simp at e; subst e; exact hrA (fun e => by subst e; simp at hlt) b rfl)
            · exact (AL.aside (HAL.out.ext HBV.out) HAS.out (nt 0 (by omega) hC0)).aside aX (fun e => h0r e.symm)
          case measure => simp [intOf]; omega
        · have hzb : (z != 0) = true := by simpa using hz
          have HQ3 : Hid (seqU r l = pre ++ [((t0, t1, t2), z)]) := by show _ = _; rw [HQ2.out, if_neg hz]
          clear hz
          gi_wp2
          refine bodyPost_ret (results_none rfl _ _ _) rfl ?_
          exact ⟨⟨_, rfl⟩, .inl ⟨_, _, HQ3.out.symm, j2⟩⟩
      · gi_wp2
        refine bodyPost_ret (results_none rfl _ _ _) rfl ?_
        refine ⟨⟨_, rfl⟩, .inr ⟨_, _, ?_, jx⟩⟩
        rw [HQ2.out]
        exact ⟨if z = 0 then seqU (t0, t1, t2) (l.drop (k + 1)) else [], by simp⟩
    · obtain rfl : k = l.length := by omega
      have HQ3 : Hid (pre = seqU r l) := by show _ = _; rw [HQ.out, List.drop_length]; simp [seqU]
      gi_wp2
      go_end0
      exact ⟨⟨_, rfl⟩, .inl ⟨_, by rw [← HQ3.out]; exact hj⟩⟩
end Go.Proofs.YtngenoblifhnpaaDoor
