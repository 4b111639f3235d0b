/- scan.run. Written by gen_scu.py. -/
import Derived.Test.YtiobbdfkimpfbaaMgC
namespace Go.Proofs.Ytiobbdfkimpfbaa
set_option linter.unusedSimpArgs false
set_option linter.unusedVariables false
open Go.RowKit Go.Maps
open Go.Shelf
attribute [local go_sem] Oper.semAt_some

/-- Where a sweep is behind some steps. -/
def runE (T : Int) (xs ys : List Int) (rs : List Bool) (m : Nat) : EvP := ((full T xs ys rs []).take m).getLast?.getD ⟨0, 0, xs, ys, rs, []⟩
def RunQ (T : Int) (R : EvP) (vs : List Int) (w : World) (e : Ending) (w' : World) : Prop :=
  ∃ B1 B2 B3 d1 d2 d3 A c, e = .returned (.tuple #[.agg #[.slice B1 R.xs.length d1, .slice B2 R.ys.length d2, .slice B3 R.rs.length d3, .int .i64 T, .int .i64 R.f, .int .u64 (wrd 0 R.mv), .int .u64 (wrd 1 R.mv), .int .u64 (wrd 2 R.mv), .int .u64 (wrd 3 R.mv)], .slice A vs.length c]) ∧ InMem w' B1 B2 B3 R.xs R.ys R.rs ∧ NeZ (fun k => k < w.heap.size) B1 B2 B3 R.xs R.ys R.rs ∧ lruChk R.xs R.ys R.rs = 0 ∧
    Sl w' (.int .i64) A vs ∧ (∀ g, A.map (·.block) = some g → w.heap.size ≤ g) ∧ Below w.heap.size w w'
theorem VB.other {base : Nat} {V w1 : World} {A : Option Addr} {c n : Nat} {vs : List Int} {x : Int} {B : Nat} {ty : TypeId} {cs : Array Value} (ho : Own V base 3 (.int .i64) (.slice A n c) vs) (hk : Blk V B ty cs) (hty : ty ≠ 3)
    (hgr : (V.alloc (.cells #[.int .i64 x] 3)).grownBy w1 (Value.slice A n c).ownBlock) : Blk w1 B ty cs := by
  refine (hgr.block B (by have := hk.lt; simp; omega) (fun e => ?_)).trans (hk.alloc_ _)
  rcases ho.form with ⟨e0, _⟩ | ⟨g, cur, e0, hb, hk2, _⟩
  · rw [e0] at e; cases e
  · rw [e0] at e
    injection e with e
    subst e
    have hh := (show V.heap[_]? = _ from hk).symm.trans (show V.heap[_]? = _ from hk2)
    injection hh with hh
    injection hh with _ h2
    exact hty h2
theorem far9_ {w : World} {B b o : Nat} {v a0 a1 a2 a3 a4 a5 a6 a7 a8 : Value} (h : w.cell? ⟨b, o, none⟩ = some v) (hn : b ≠ B) : (((((((((w.setCell ⟨B, 0, none⟩ (a0)).setCell ⟨B, 1, none⟩ (a1)).setCell ⟨B, 2, none⟩ (a2)).setCell ⟨B, 3, none⟩ (a3)).setCell ⟨B, 4, none⟩ (a4)).setCell ⟨B, 5, none⟩ (a5)).setCell ⟨B, 6, none⟩ (a6)).setCell ⟨B, 7, none⟩ (a7)).setCell ⟨B, 8, none⟩ (a8)).cell? ⟨b, o, none⟩ = some v :=
  ((((((((((Aside.refl (fun k => k = B) w).setCell (p := ⟨B, 0, none⟩) (.inr rfl) _).setCell (p := ⟨B, 1, none⟩) (.inr rfl) _).setCell (p := ⟨B, 2, none⟩) (.inr rfl) _).setCell (p := ⟨B, 3, none⟩) (.inr rfl) _).setCell (p := ⟨B, 4, none⟩) (.inr rfl) _).setCell (p := ⟨B, 5, none⟩) (.inr rfl) _).setCell (p := ⟨B, 6, none⟩) (.inr rfl) _).setCell (p := ⟨B, 7, none⟩) (.inr rfl) _).setCell (p := ⟨B, 8, none⟩) (.inr rfl) _).cell h hn
theorem drew_cell_ (X : World) (p : Addr) : X.drew.cell? p = X.cell? p := rfl
theorem far9d_ {w : World} {B b o : Nat} {v a0 a1 a2 a3 a4 a5 a6 a7 a8 : Value} (h : w.cell? ⟨b, o, none⟩ = some v) (hn : b ≠ B) : (((((((((w.setCell ⟨B, 0, none⟩ (a0)).setCell ⟨B, 1, none⟩ (a1)).setCell ⟨B, 2, none⟩ (a2)).setCell ⟨B, 3, none⟩ (a3)).setCell ⟨B, 4, none⟩ (a4)).setCell ⟨B, 5, none⟩ (a5)).setCell ⟨B, 6, none⟩ (a6)).setCell ⟨B, 7, none⟩ (a7)).setCell ⟨B, 8, none⟩ (a8)).drew.cell? ⟨b, o, none⟩ = some v := by
  rw [drew_cell_]
  exact far9_ h hn
/-- The event that a sweep stands behind. -/
def wkE (d : EV) (pre : List EV) : EV := pre.getLast?.getD d
theorem wkE_snoc (d : EV) (pre : List EV) (x : EV) : wkE d (pre ++ [x]) = x := by simp [wkE]
theorem wkE_nil (d : EV) : wkE d [] = d := rfl
theorem wkE_hd {d : EV} {pre : List EV} {b : Nat} (h : (wkE d pre).hd b) : d.hd b ∨ EvH pre b := by
  rcases List.eq_nil_or_concat pre with rfl | ⟨p, x, rfl⟩
  · exact .inl h
  · rw [List.concat_eq_append] at h ⊢
    rw [wkE_snoc] at h
    exact .inr ⟨x, by simp, h⟩

/-- What lies in the variables of run. -/
structure RIc (T : Int) (w : World) (Bw : Nat) (d : EV) (pre : List EV) (G : Nat → Prop) (V : World) : Prop where
  wk : Blk V Bw 66 #[.slice (wkE d pre).A1 (wkE d pre).xs.length (wkE d pre).c1, .slice (wkE d pre).A2 (wkE d pre).ys.length (wkE d pre).c2, .slice (wkE d pre).A3 (wkE d pre).rs.length (wkE d pre).c3, .int .i64 T, .int .i64 (wkE d pre).f, .int .u64 (wrd 0 (wkE d pre).mv), .int .u64 (wrd 1 (wkE d pre).mv), .int .u64 (wrd 2 (wkE d pre).mv), .int .u64 (wrd 3 (wkE d pre).mv)]
  st : Blk V (Bw + 1 + 1) 3 #[.int .i64 pre.length]
  vb : VB (w.heap.size + 3) (Bw + 1) (vicP (pre.map EV.pl)) G V
  bel : Below w.heap.size w V
  mem : InMem V (wkE d pre).A1 (wkE d pre).A2 (wkE d pre).A3 (wkE d pre).xs (wkE d pre).ys (wkE d pre).rs
  chk : lruChk (wkE d pre).xs (wkE d pre).ys (wkE d pre).rs = 0
  ne : NeZ (fun k => k < w.heap.size) (wkE d pre).A1 (wkE d pre).A2 (wkE d pre).A3 (wkE d pre).xs (wkE d pre).ys (wkE d pre).rs
  hd : ∀ k, EvH pre k → w.heap.size + 3 ≤ k
theorem RIc.aside {T : Int} {w : World} {Bw : Nat} {d : EV} {pre : List EV} {G Z : Nat → Prop} {V V' : World} (h : RIc T w Bw d pre G V) (ha : Aside Z V V') (h1 : ¬ Z Bw) (h2 : ¬ Z (Bw + 1)) (h3 : ¬ Z (Bw + 1 + 1)) (hG : ∀ g, G g → ¬ Z g)
    (hB : ∀ k, k < w.heap.size → ¬ Z k) (hm : ∀ k, (wkE d pre).hd k → ¬ Z k) : RIc T w Bw d pre G V' :=
  ⟨ha.blk h.wk h1, ha.blk h.st h3, h.vb.aside ha h2 hG, h.bel.trans (ha.below h.bel.size hB), h.mem.aside ha (NeZ.of_hd _ hm), h.chk, h.ne, h.hd⟩
theorem RIc.mono {T : Int} {w : World} {Bw : Nat} {d : EV} {pre : List EV} {G G' : Nat → Prop} {V : World} (h : RIc T w Bw d pre G V) (hG : ∀ g, G g → G' g) : RIc T w Bw d pre G' V := ⟨h.wk, h.st, h.vb.mono hG, h.bel, h.mem, h.chk, h.ne, h.hd⟩

theorem wkE_pl {d : EV} {xs ys : List Int} {rs : List Bool} {D1 D2 D3 : Option Addr} {f1 f2 f3 : Nat} (hd : d = ⟨0, 0, xs, ys, rs, [], D1, D2, D3, f1, f2, f3⟩) (pre : List EV) : (pre.map EV.pl).getLast?.getD ⟨0, 0, xs, ys, rs, []⟩ = (wkE d pre).pl := by
  rcases List.eq_nil_or_concat pre with rfl | ⟨p, x, rfl⟩
  · subst hd; rfl
  · rw [List.concat_eq_append, wkE_snoc]; simp
theorem InMem.put_ {w : World} {A1 A2 A3 : Option Addr} {xs ys : List Int} {rs : List Bool} (h : InMem w A1 A2 A3 xs ys rs) {D : Nat} {o o' : Obj} (hD : w.heap[D]? = some o) (ho : o.isCells = false) : InMem (w.putObj D o') A1 A2 A3 xs ys rs :=
  ⟨h.a.ext_put hD ho, h.i.ext_put hD ho, h.r.ext_put hD ho, h.la, h.li, h.lr, h.wa, h.wi⟩

set_option maxRecDepth 100000 in
set_option maxHeartbeats 4000000 in
/-- Behind the last return. -/
theorem run_end {T : Int} {e : EV} {R : EvP} {vs vs' : List Int} {A : Option Addr} {c : Nat} {w U : World} {n D : Nat} {ts : Array Value} (hk : Blk U (w.heap.size + 1 + 1) 66 #[.slice e.A1 e.xs.length e.c1, .slice e.A2 e.ys.length e.c2, .slice e.A3 e.rs.length e.c3, .int .i64 T, .int .i64 e.f, .int .u64 (wrd 0 e.mv), .int .u64 (wrd 1 e.mv), .int .u64 (wrd 2 e.mv), .int .u64 (wrd 3 e.mv)]) (hm : InMem U e.A1 e.A2 e.A3 e.xs e.ys e.rs)
    (hn : NeZ (fun k => k < w.heap.size) e.A1 e.A2 e.A3 e.xs e.ys e.rs) (hc : lruChk e.xs e.ys e.rs = 0) (ho : Own U (w.heap.size + 3) 3 (.int .i64) (.slice A vs.length c) vs) (hb : Below w.heap.size w U) (hD : w.heap.size + 3 ≤ D) (hK : U.heap[D]? = some (.deferred (some [])))
    (h6 : ts[6]? = some (.pointer (some ⟨w.heap.size + 1 + 1, 0, none⟩))) (h9 : ts[7]? = some (.slice A vs.length c)) (hR : R = e.pl) (hV : vs' = vs) :
    LeavesInM Fence.wide n Try.prog Try.f51 ts (RunQ T R vs' w) [{ target := .collected D, args := #[] }] .returning U := by
  subst hR hV
  have kU : Blk (U.putObj D (.deferred none)) (w.heap.size + 1 + 1) 66 #[.slice e.A1 e.xs.length e.c1, .slice e.A2 e.ys.length e.c2, .slice e.A3 e.rs.length e.c3, .int .i64 T, .int .i64 e.f, .int .u64 (wrd 0 e.mv), .int .u64 (wrd 1 e.mv), .int .u64 (wrd 2 e.mv), .int .u64 (wrd 3 e.mv)] := (World.putObj_heap_other (by omega)).trans hk
  have bU : Below w.heap.size w (U.putObj D (.deferred none)) := hb.trans (belowK_b (w := w) (Nat.le_refl _) U D _ _ (by omega) hK rfl rfl)
  have p0 : (U.putObj D (.deferred none)).cell? ⟨w.heap.size + 1 + 1, 0, none⟩ = some (.slice e.A1 e.xs.length e.c1) := (kU.cell_ 0).trans (by simp)
  have p1 : (U.putObj D (.deferred none)).cell? ⟨w.heap.size + 1 + 1, 1, none⟩ = some (.slice e.A2 e.ys.length e.c2) := (kU.cell_ 1).trans (by simp)
  have p2 : (U.putObj D (.deferred none)).cell? ⟨w.heap.size + 1 + 1, 2, none⟩ = some (.slice e.A3 e.rs.length e.c3) := (kU.cell_ 2).trans (by simp)
  have p3 : (U.putObj D (.deferred none)).cell? ⟨w.heap.size + 1 + 1, 3, none⟩ = some (.int .i64 T) := (kU.cell_ 3).trans (by simp)
  have p4 : (U.putObj D (.deferred none)).cell? ⟨w.heap.size + 1 + 1, 4, none⟩ = some (.int .i64 e.f) := (kU.cell_ 4).trans (by simp)
  have p5 : (U.putObj D (.deferred none)).cell? ⟨w.heap.size + 1 + 1, 5, none⟩ = some (.int .u64 (wrd 0 e.mv)) := (kU.cell_ 5).trans (by simp)
  have p6 : (U.putObj D (.deferred none)).cell? ⟨w.heap.size + 1 + 1, 6, none⟩ = some (.int .u64 (wrd 1 e.mv)) := (kU.cell_ 6).trans (by simp)
  have p7 : (U.putObj D (.deferred none)).cell? ⟨w.heap.size + 1 + 1, 7, none⟩ = some (.int .u64 (wrd 2 e.mv)) := (kU.cell_ 7).trans (by simp)
  have p8 : (U.putObj D (.deferred none)).cell? ⟨w.heap.size + 1 + 1, 8, none⟩ = some (.int .u64 (wrd 3 e.mv)) := (kU.cell_ 8).trans (by simp)
  refine ⟨by simp, .inl ⟨_, _, rfl, run_takeDeferred hK, ?_⟩⟩
  refine ⟨.tuple #[.agg #[.slice e.A1 e.xs.length e.c1, .slice e.A2 e.ys.length e.c2, .slice e.A3 e.rs.length e.c3, .int .i64 T, .int .i64 e.f, .int .u64 (wrd 0 e.mv), .int .u64 (wrd 1 e.mv), .int .u64 (wrd 2 e.mv), .int .u64 (wrd 3 e.mv)], .slice A vs'.length c], ?_, ?_⟩
  · simp [results, Try.results51, go_sem, h6, h9, p0, p1, p2, p3, p4, p5, p6, p7, p8]
  · exact ⟨e.A1, e.A2, e.A3, e.c1, e.c2, e.c3, A, c, rfl, hm.put_ hK rfl, hn, hc, (own_sl ho).ext_put hK, fun g h => by have := (ho.block g h).1; omega, bU⟩

set_option maxRecDepth 100000 in
set_option maxHeartbeats 4000000 in
theorem run_zero (A1 A2 A3 : Option Addr) (c1 c2 c3 : Nat) (xs ys : List Int) (rs : List Bool) (T : Int) (m : Nat) (w : World) (h : InMem w A1 A2 A3 xs ys rs) (hc : lruChk xs ys rs = 0) (h0 : m = 0) :
    Calls Try.prog 51 #[.agg #[.slice A1 xs.length c1, .slice A2 ys.length c2, .slice A3 rs.length c3], .int .i64 T, .int .i64 m] w (RunQ T (runE T xs ys rs m) (vicP ((full T xs ys rs []).take m)) w) := by
  have HM := Lib.hid h; have HC := Lib.hid hc
  subst h0
  clear h hc
  obtain ⟨X0, hX0⟩ : ∃ X, ((w.alloc (.cells #[.slice A1 xs.length c1, .slice A2 ys.length c2, .slice A3 rs.length c3] 25)).alloc (.cells #[.int .i64 0] 3)).alloc (.cells #[.slice none 0 0, .slice none 0 0, .slice none 0 0, .int .i64 0, .int .i64 0, .int .u64 0, .int .u64 0, .int .u64 0, .int .u64 0] 66) = X := ⟨_, rfl⟩
  have k0 : Blk X0 w.heap.size 25 #[.slice A1 xs.length c1, .slice A2 ys.length c2, .slice A3 rs.length c3] := by rw [← hX0]; exact ((Blk.new_ rfl rfl).alloc_ _).alloc_ _
  have k1 : Blk X0 (w.heap.size + 1) 3 #[.int .i64 0] := by rw [← hX0]; exact (Blk.new_ (by simp) rfl).alloc_ _
  have k2 : Blk X0 (w.heap.size + 1 + 1) 66 #[.slice none 0 0, .slice none 0 0, .slice none 0 0, .int .i64 0, .int .i64 0, .int .u64 0, .int .u64 0, .int .u64 0, .int .u64 0] := by rw [← hX0]; exact Blk.new_ (by simp) rfl
  have HBX : Hid (Below w.heap.size w X0) := by show Below _ _ _; rw [← hX0]; exact (((Below.refl _ _).alloc (Nat.le_refl _) _).alloc (by simp) _).alloc (by simp; omega) _
  have q0 : X0.cell? ⟨w.heap.size, 0, none⟩ = some (.slice A1 xs.length c1) := (k0.cell_ 0).trans (by simp)
  have q1 : X0.cell? ⟨w.heap.size, 1, none⟩ = some (.slice A2 ys.length c2) := (k0.cell_ 1).trans (by simp)
  have q2 : X0.cell? ⟨w.heap.size, 2, none⟩ = some (.slice A3 rs.length c3) := (k0.cell_ 2).trans (by simp)
  go_enter Try.func51, Try.ntmps51
  go_wp2_with fail
  (try rw [hX0])
  refine (twin_any A1 A2 A3 c1 c2 c3 xs ys rs X0 (HM.out.ext HBX.out) (by have := chk_len HC.out; omega) (by have := chk_len HC.out; omega) (by have := chk_len HC.out; omega)).mono ?_
  rintro e x5 ⟨D1, D2, D3, f1, f2, f3, rfl, hmd, hnd, hb5⟩
  have HMD := Lib.hid hmd; have HND := Lib.hid hnd
  have K0 := Lib.hid (k0.below_ hb5 k0.lt)
  have K1 := Lib.hid (k1.below_ hb5 k1.lt)
  have K2 := Lib.hid (k2.below_ hb5 k2.lt)
  have HB5 := Lib.hid (HBX.out.trans (hb5.mono HBX.out.size))
  have zX0 := k2.lt
  have z5 := hb5.size
  clear hX0 q0 q1 q2 hmd hnd hb5 k0 k1 k2 HBX
  have n0 : x5.cell? ⟨w.heap.size + 1, 0, none⟩ = some (.int .i64 0) := (K1.out.cell_ 0).trans (by simp)
  have y0 : x5.cell? ⟨w.heap.size + 1 + 1, 0, none⟩ = some (.slice none 0 0) := (K2.out.cell_ 0).trans (by simp)
  have y1 : x5.cell? ⟨w.heap.size + 1 + 1, 1, none⟩ = some (.slice none 0 0) := (K2.out.cell_ 1).trans (by simp)
  have y2 : x5.cell? ⟨w.heap.size + 1 + 1, 2, none⟩ = some (.slice none 0 0) := (K2.out.cell_ 2).trans (by simp)
  have y3 : x5.cell? ⟨w.heap.size + 1 + 1, 3, none⟩ = some (.int .i64 0) := (K2.out.cell_ 3).trans (by simp)
  have y4 : x5.cell? ⟨w.heap.size + 1 + 1, 4, none⟩ = some (.int .i64 0) := (K2.out.cell_ 4).trans (by simp)
  have y5 : x5.cell? ⟨w.heap.size + 1 + 1, 5, none⟩ = some (.int .u64 0) := (K2.out.cell_ 5).trans (by simp)
  have y6 : x5.cell? ⟨w.heap.size + 1 + 1, 6, none⟩ = some (.int .u64 0) := (K2.out.cell_ 6).trans (by simp)
  have y7 : x5.cell? ⟨w.heap.size + 1 + 1, 7, none⟩ = some (.int .u64 0) := (K2.out.cell_ 7).trans (by simp)
  have y8 : x5.cell? ⟨w.heap.size + 1 + 1, 8, none⟩ = some (.int .u64 0) := (K2.out.cell_ 8).trans (by simp)
  have g0 := K2.out.frozen_ 0
  have g1 := K2.out.frozen_ 1
  have g2 := K2.out.frozen_ 2
  have g3 := K2.out.frozen_ 3
  have g4 := K2.out.frozen_ 4
  have g5 := K2.out.frozen_ 5
  have g6 := K2.out.frozen_ 6
  have g7 := K2.out.frozen_ 7
  have g8 := K2.out.frozen_ 8
  have zz0 : w.heap.size < x5.heap.size := by omega
  have zz1 : w.heap.size + 1 < x5.heap.size := by omega
  have zz2 : w.heap.size + 1 + 1 < x5.heap.size := by omega
  go_wp2_with fail
  clear y0 y1 y2 y3 y4 y5 y6 y7 y8 g0 g1 g2 g3 g4 g5 g6 g7 g8 n0
  obtain ⟨U, hU⟩ : ∃ U, ((((((((((x5.setCell ⟨w.heap.size + 1 + 1, 0, none⟩ (.slice D1 xs.length f1)).setCell ⟨w.heap.size + 1 + 1, 1, none⟩ (.slice D2 ys.length f2)).setCell ⟨w.heap.size + 1 + 1, 2, none⟩ (.slice D3 rs.length f3)).setCell ⟨w.heap.size + 1 + 1, 3, none⟩ (.int .i64 T)).setCell ⟨w.heap.size + 1 + 1, 4, none⟩ (.int .i64 0)).setCell ⟨w.heap.size + 1 + 1, 5, none⟩ (.int .u64 0)).setCell ⟨w.heap.size + 1 + 1, 6, none⟩ (.int .u64 0)).setCell ⟨w.heap.size + 1 + 1, 7, none⟩ (.int .u64 0)).setCell ⟨w.heap.size + 1 + 1, 8, none⟩ (.int .u64 0)).alloc (.cells #[.slice D1 xs.length f1, .slice D2 ys.length f2, .slice D3 rs.length f3, .int .i64 T, .int .i64 0, .int .u64 0, .int .u64 0, .int .u64 0, .int .u64 0] 66)).alloc (.cells #[.slice none 0 0] 22) = U := ⟨_, rfl⟩
  have hn2 : NewL (w.heap.size + 1 + 1 + 1) D1 D2 D3 := HND.out.mono (by omega)
  have AU : Aside (fun k => k = w.heap.size + 1 + 1) x5 U := by rw [← hU]; exact (((((((((((Aside.refl (fun k => k = w.heap.size + 1 + 1) x5).setCell (p := ⟨w.heap.size + 1 + 1, 0, none⟩) (.inr rfl) _).setCell (p := ⟨w.heap.size + 1 + 1, 1, none⟩) (.inr rfl) _).setCell (p := ⟨w.heap.size + 1 + 1, 2, none⟩) (.inr rfl) _).setCell (p := ⟨w.heap.size + 1 + 1, 3, none⟩) (.inr rfl) _).setCell (p := ⟨w.heap.size + 1 + 1, 4, none⟩) (.inr rfl) _).setCell (p := ⟨w.heap.size + 1 + 1, 5, none⟩) (.inr rfl) _).setCell (p := ⟨w.heap.size + 1 + 1, 6, none⟩) (.inr rfl) _).setCell (p := ⟨w.heap.size + 1 + 1, 7, none⟩) (.inr rfl) _).setCell (p := ⟨w.heap.size + 1 + 1, 8, none⟩) (.inr rfl) _).alloc _).alloc _
  have KU : Blk U (w.heap.size + 1 + 1) 66 #[.slice D1 xs.length f1, .slice D2 ys.length f2, .slice D3 rs.length f3, .int .i64 T, .int .i64 0, .int .u64 0, .int .u64 0, .int .u64 0, .int .u64 0] := by
    rw [← hU]
    simpa using ((((((((((K2.out.set_ 0 (.slice D1 xs.length f1)).set_ 1 (.slice D2 ys.length f2)).set_ 2 (.slice D3 rs.length f3)).set_ 3 (.int .i64 T)).set_ 4 (.int .i64 0)).set_ 5 (.int .u64 0)).set_ 6 (.int .u64 0)).set_ 7 (.int .u64 0)).set_ 8 (.int .u64 0)).alloc_ (.cells #[.slice D1 xs.length f1, .slice D2 ys.length f2, .slice D3 rs.length f3, .int .i64 T, .int .i64 0, .int .u64 0, .int .u64 0, .int .u64 0, .int .u64 0] 66)).alloc_ (.cells #[.slice none 0 0] 22)
  have MU : InMem U D1 D2 D3 xs ys rs := HMD.out.aside AU (hn2.neZ (fun k e => by omega) _ _ _)
  have BU := HB5.out.trans (AU.below (B := w.heap.size) (by have := HB5.out.size; omega) fun k hk e => by omega)
  (try rw [hU])
  have u0 : U.cell? ⟨w.heap.size + 1 + 1, 0, none⟩ = some (.slice D1 xs.length f1) := (KU.cell_ 0).trans (by simp)
  have u1 : U.cell? ⟨w.heap.size + 1 + 1, 1, none⟩ = some (.slice D2 ys.length f2) := (KU.cell_ 1).trans (by simp)
  have u2 : U.cell? ⟨w.heap.size + 1 + 1, 2, none⟩ = some (.slice D3 rs.length f3) := (KU.cell_ 2).trans (by simp)
  have u3 : U.cell? ⟨w.heap.size + 1 + 1, 3, none⟩ = some (.int .i64 T) := (KU.cell_ 3).trans (by simp)
  have u4 : U.cell? ⟨w.heap.size + 1 + 1, 4, none⟩ = some (.int .i64 0) := (KU.cell_ 4).trans (by simp)
  have u5 : U.cell? ⟨w.heap.size + 1 + 1, 5, none⟩ = some (.int .u64 0) := (KU.cell_ 5).trans (by simp)
  have u6 : U.cell? ⟨w.heap.size + 1 + 1, 6, none⟩ = some (.int .u64 0) := (KU.cell_ 6).trans (by simp)
  have u7 : U.cell? ⟨w.heap.size + 1 + 1, 7, none⟩ = some (.int .u64 0) := (KU.cell_ 7).trans (by simp)
  have u8 : U.cell? ⟨w.heap.size + 1 + 1, 8, none⟩ = some (.int .u64 0) := (KU.cell_ 8).trans (by simp)
  refine bodyPost_ret (v := .tuple #[.agg #[.slice D1 xs.length f1, .slice D2 ys.length f2, .slice D3 rs.length f3, .int .i64 T, .int .i64 0, .int .u64 0, .int .u64 0, .int .u64 0, .int .u64 0], .slice none 0 0]) (by simp [results, Try.results51, go_sem, u0, u1, u2, u3, u4, u5, u6, u7, u8]) rfl ?_
  exact ⟨D1, D2, D3, f1, f2, f3, none, 0, rfl, MU, hn2.neZ (fun k e => by omega) _ _ _, HC.out, Sl.nil, (fun g e => by simp at e), BU⟩

set_option maxRecDepth 100000 in
set_option maxHeartbeats 4000000 in
theorem run_fence (n : Nat) (hn : 6 ≤ n) (A1 A2 A3 : Option Addr) (c1 c2 c3 : Nat) (xs ys : List Int) (rs : List Bool) (T : Int) (m : Nat) (w : World) (h : InMem w A1 A2 A3 xs ys rs) (hc : lruChk xs ys rs = 0) (h0 : 0 < m) (hm9 : m ≤ 1000) :
    CallsIn Fence.wide n Try.prog 51 #[.agg #[.slice A1 xs.length c1, .slice A2 ys.length c2, .slice A3 rs.length c3], .int .i64 T, .int .i64 m] w (RunQ T (runE T xs ys rs m) (vicP ((full T xs ys rs []).take m)) w) := by
  have HM := Lib.hid h; have HC := Lib.hid hc
  have HFL := Lib.hid (full_len (T := T) (mv := []) hc)
  clear h hc
  obtain ⟨i0, hi0, hz0, hz1, hz2⟩ := info_parts intInfo
  have h1 : 1 ≤ n := by omega
  obtain ⟨X0, hX0⟩ : ∃ X, ((w.alloc (.cells #[.slice A1 xs.length c1, .slice A2 ys.length c2, .slice A3 rs.length c3] 25)).alloc (.cells #[.int .i64 m] 3)).alloc (.cells #[.slice none 0 0, .slice none 0 0, .slice none 0 0, .int .i64 0, .int .i64 0, .int .u64 0, .int .u64 0, .int .u64 0, .int .u64 0] 66) = X := ⟨_, rfl⟩
  have k0 : Blk X0 w.heap.size 25 #[.slice A1 xs.length c1, .slice A2 ys.length c2, .slice A3 rs.length c3] := by rw [← hX0]; exact ((Blk.new_ rfl rfl).alloc_ _).alloc_ _
  have k1 : Blk X0 (w.heap.size + 1) 3 #[.int .i64 m] := by rw [← hX0]; exact (Blk.new_ (by simp) rfl).alloc_ _
  have k2 : Blk X0 (w.heap.size + 1 + 1) 66 #[.slice none 0 0, .slice none 0 0, .slice none 0 0, .int .i64 0, .int .i64 0, .int .u64 0, .int .u64 0, .int .u64 0, .int .u64 0] := by rw [← hX0]; exact Blk.new_ (by simp) rfl
  have HBX : Hid (Below w.heap.size w X0) := by show Below _ _ _; rw [← hX0]; exact (((Below.refl _ _).alloc (Nat.le_refl _) _).alloc (by simp) _).alloc (by simp; omega) _
  have q0 : X0.cell? ⟨w.heap.size, 0, none⟩ = some (.slice A1 xs.length c1) := (k0.cell_ 0).trans (by simp)
  have q1 : X0.cell? ⟨w.heap.size, 1, none⟩ = some (.slice A2 ys.length c2) := (k0.cell_ 1).trans (by simp)
  have q2 : X0.cell? ⟨w.heap.size, 2, none⟩ = some (.slice A3 rs.length c3) := (k0.cell_ 2).trans (by simp)
  have mb : ((m : Int) == 0) = false := by rw [beq_eq_false_iff_ne]; omega
  refine callsIn_of_wp_marks Try.func51 rfl trivial ?_ rfl
  simp only [Try.ntmps51, List.size_toArray, List.length_cons, List.length_nil, Nat.reduceAdd, Nat.reduceSub, Array.replicate_succ, Array.replicate_zero, List.push_toArray, List.append_toArray, List.nil_append, List.cons_append]
  gi_wp2_with fail
  (try rw [hX0])
  refine ⟨trivial, (callsIn_wide.2 (twin_any A1 A2 A3 c1 c2 c3 xs ys rs X0 (HM.out.ext HBX.out) (by have := chk_len HC.out; omega) (by have := chk_len HC.out; omega) (by have := chk_len HC.out; omega))).mono ?_⟩
  rintro e x5 ⟨D1, D2, D3, f1, f2, f3, rfl, hmd, hnd, hb5⟩
  have HMD := Lib.hid hmd; have HND := Lib.hid hnd
  have K0 := Lib.hid (k0.below_ hb5 k0.lt)
  have K1 := Lib.hid (k1.below_ hb5 k1.lt)
  have K2 := Lib.hid (k2.below_ hb5 k2.lt)
  have HB5 := Lib.hid (HBX.out.trans (hb5.mono HBX.out.size))
  have zX0 := k2.lt
  have z5 := hb5.size
  clear hX0 q0 q1 q2 hmd hnd hb5 k0 k1 k2 HBX
  have n0 : x5.cell? ⟨w.heap.size + 1, 0, none⟩ = some (.int .i64 m) := (K1.out.cell_ 0).trans (by simp)
  have q0 : x5.cell? ⟨w.heap.size, 0, none⟩ = some (.slice A1 xs.length c1) := (K0.out.cell_ 0).trans (by simp)
  have q1 : x5.cell? ⟨w.heap.size, 1, none⟩ = some (.slice A2 ys.length c2) := (K0.out.cell_ 1).trans (by simp)
  have q2 : x5.cell? ⟨w.heap.size, 2, none⟩ = some (.slice A3 rs.length c3) := (K0.out.cell_ 2).trans (by simp)
  have zz0 : w.heap.size < x5.heap.size := by omega
  have zz1 : w.heap.size + 1 < x5.heap.size := by omega
  have zz3 : w.heap.size < x5.heap.size + 1 := by omega
  have zz4 : w.heap.size < x5.heap.size + 1 + 1 := by omega
  have zz5 : w.heap.size < x5.heap.size + 2 := by omega
  gi_wp2_with fail
  obtain ⟨X, hX⟩ : ∃ X, ((x5.alloc (.cells #[.slice D1 xs.length f1, .slice D2 ys.length f2, .slice D3 rs.length f3, .int .i64 T, .int .i64 0, .int .u64 0, .int .u64 0, .int .u64 0, .int .u64 0] 66)).alloc (.cells #[.slice none 0 0] 22)).alloc (.cells #[.int .i64 0] 3) = X := ⟨_, rfl⟩
  have bX : Below x5.heap.size x5 X := by rw [← hX]; exact (((Below.refl _ _).alloc (Nat.le_refl _) _).alloc (by simp) _).alloc (by simp; omega) _
  have kw : Blk X x5.heap.size 66 #[.slice D1 xs.length f1, .slice D2 ys.length f2, .slice D3 rs.length f3, .int .i64 T, .int .i64 0, .int .u64 0, .int .u64 0, .int .u64 0, .int .u64 0] := by rw [← hX]; exact ((Blk.new_ rfl rfl).alloc_ _).alloc_ _
  have kv : Blk X (x5.heap.size + 1) 22 #[.slice none 0 0] := by rw [← hX]; exact (Blk.new_ (by simp) rfl).alloc_ _
  have ks : Blk X (x5.heap.size + 1 + 1) 3 #[.int .i64 0] := by rw [← hX]; exact Blk.new_ (by simp) rfl
  have sX : X.heap.size = x5.heap.size + 3 := by rw [← hX]; simp
  have HBX := Lib.hid (HB5.out.trans (bX.mono HB5.out.size))
  have K1X := Lib.hid (K1.out.below_ bX K1.out.lt)
  have K2X := Lib.hid (K2.out.below_ bX K2.out.lt)
  have MDX := Lib.hid (HMD.out.ext bX)
  (try rw [hX])
  clear hX q0 q1 q2 n0 K0 K1 K2
  refine ⟨trivial, (callsIn_wide.2 (sweep_any A1 A2 A3 xs.length ys.length rs.length c1 c2 c3 T X)).mono ?_⟩
  rintro e W ⟨rfl, hW⟩
  have sW : W.heap.size = X.heap.size + 2 := by rw [hW]; simp
  have bW : Below X.heap.size X W := by rw [hW]; exact ((Below.refl _ _).alloc (Nat.le_refl _) _).alloc (by simp) _
  have kl : Blk W X.heap.size 25 #[.slice A1 xs.length c1, .slice A2 ys.length c2, .slice A3 rs.length c3] := by rw [hW]; exact (Blk.new_ rfl rfl).alloc_ _
  have kt : Blk W (X.heap.size + 1) 3 #[.int .i64 T] := by rw [hW]; exact Blk.new_ (by simp) rfl
  have BW := Lib.hid (HBX.out.trans (bW.mono HBX.out.size))
  have MW : InMem W A1 A2 A3 xs ys rs := HM.out.ext BW.out
  have MDW := Lib.hid (MDX.out.ext bW)
  have HSX := Lib.hid sX; have HSW := Lib.hid sW
  have K1W := Lib.hid (K1X.out.below_ bW K1X.out.lt); have K2W := Lib.hid (K2X.out.below_ bW K2X.out.lt)
  have KWW : Blk W x5.heap.size 66 #[.slice D1 xs.length f1, .slice D2 ys.length f2, .slice D3 rs.length f3, .int .i64 T, .int .i64 0, .int .u64 0, .int .u64 0, .int .u64 0, .int .u64 0] := kw.below_ bW kw.lt
  have KSW := ks.below_ bW ks.lt
  have VW : VB (w.heap.size + 3) (x5.heap.size + 1) [] (fun _ => False) W := ⟨none, 0, kv.below_ bW kv.lt, World.ownsRow_nil _ _ _ _, fun g e => by cases e⟩
  have zx := HB5.out.size
  have hzx : w.heap.size + 1 + 1 + 1 ≤ x5.heap.size := by omega
  clear hW bW sX sW kw kv ks bX zz0 zz1 zz3 zz4 zz5
  gi_wp2_with fail
  have sX := HSX.out; have sW := HSW.out
  have nn : ∀ k (G : Nat → Prop) s, k < W.heap.size → ¬ ¬ (Theirs W.heap.size (fun _ => False) G k ∨ EvH s k) := fun k G s h1 hn => hn (.inl (.inr ⟨h1, fun h => h⟩))
  obtain ⟨d, hd⟩ : ∃ d : EV, d = ⟨0, 0, xs, ys, rs, [], D1, D2, D3, f1, f2, f3⟩ := ⟨_, rfl⟩
  have HDD := Lib.hid hd
  have hdm : ∀ k, d.hd k → k < W.heap.size := fun k hk => by subst hd; exact MDW.out.hd_lt hk
  have VI : RIc T w x5.heap.size d [] (fun _ => False) W := by
    subst hd
    exact ⟨KWW, KSW, VW, BW.out, MDW.out, HC.out, HND.out.neZ (fun k hk => by omega) _ _ _, fun k hk => (evH_nil k hk).elim⟩
  have stab : ∀ (pre : List EV) G V1 V2, Aside (fun b => ¬ (Theirs W.heap.size (fun _ => False) G b ∨ EvH pre b)) V1 V2 → RIc T w x5.heap.size d pre G V1 → RIc T w x5.heap.size d pre G V2 := fun pre G V1 V2 ha hi =>
    hi.aside ha (nn _ G pre (by omega)) (nn _ G pre (by omega)) (nn _ G pre (by omega)) (fun g hg hn => hn (.inl (.inl hg))) (fun k hk => nn k G pre (by omega))
      (fun k hk hn => by rcases wkE_hd hk with hk | hk; exact nn k G pre (hdm k hk) hn; exact hn (.inr hk))
  refine wpIn_rangeH rfl h1 (gf := 75) (lb := #[.pointer (some ⟨X.heap.size, 0, none⟩), .pointer (some ⟨X.heap.size + 1, 0, none⟩)]) rfl trivial (enters_of Try.func75 (by kernel_rfl) rfl)
    (sweep1_in Fence.wide (n - 1) trivial rfl (by omega) rfl X.heap.size (X.heap.size + 1) A1 A2 A3 c1 c2 c3 xs ys rs T (fun b => b = x5.heap.size ∨ b = x5.heap.size + 1 ∨ b = x5.heap.size + 1 + 1) W MW HC.out kl kt (fun b hb => by omega))
    (fun _ => rfl) (fun b hb => hb.elim) (fun x V1 V2 hm hs ha => ⟨hm.1.aside ha (hm.2.1.sub fun k hk => by omega), hm.2⟩)
    (fun pre G V => (RIc T w x5.heap.size d pre G V ∧ pre.length < m) ∧ Blk V (w.heap.size + 1) 3 #[.int .i64 m] ∧ Blk V (w.heap.size + 1 + 1) 66 #[.slice none 0 0, .slice none 0 0, .slice none 0 0, .int .i64 0, .int .i64 0, .int .u64 0, .int .u64 0, .int .u64 0, .int .u64 0])
    (fun c pre G V => c = .exit 0 ∧ (RIc T w x5.heap.size d pre G V ∧ pre.length = m) ∧ Blk V (w.heap.size + 1 + 1) 66 #[.slice none 0 0, .slice none 0 0, .slice none 0 0, .int .i64 0, .int .i64 0, .int .u64 0, .int .u64 0, .int .u64 0, .int .u64 0])
    (fun pre G V1 V2 ⟨h1, h2, h3⟩ hs ha => ⟨⟨stab pre G V1 V2 ha h1.1, h1.2⟩, ha.blk h2 (nn _ G pre (by omega)), ha.blk h3 (nn _ G pre (by omega))⟩)
    (fun c pre G V1 V2 ⟨hc, h1, h3⟩ hs ha => ⟨hc, ⟨stab pre G V1 V2 ha h1.1, h1.2⟩, ha.blk h3 (nn _ G pre (by omega))⟩)
    (fun _ _ _ _ ⟨h1, h2⟩ hG => ⟨⟨h1.1.mono hG, h1.2⟩, h2⟩) (fun _ _ _ _ _ ⟨hc, h1, h2⟩ hG => ⟨hc, ⟨h1.1.mono hG, h1.2⟩, h2⟩)
    evH_nil evH_snoc (fun x V b hm hb => by have := EV.mem_lo hm hb; omega)
    ⟨⟨VI, h0⟩, K1W.out, K2W.out⟩
    (fun x a' V => ∃ B8, W.heap.size + 2 ≤ B8 ∧ Blk V B8 82 #[.int .i64 x.what, .int .i64 x.f, .slice x.A1 x.xs.length x.c1, .slice x.A2 x.ys.length x.c2, .slice x.A3 x.rs.length x.c3, .int .i64 T, .int .i64 x.f, .int .u64 (wrd 0 x.mv), .int .u64 (wrd 1 x.mv), .int .u64 (wrd 2 x.mv), .int .u64 (wrd 3 x.mv)] ∧ a' = { tmps := #[.agg #[.slice A1 xs.length c1, .slice A2 ys.length c2, .slice A3 rs.length c3], .int .i64 T, .int .i64 m, .pointer (some ⟨w.heap.size, 0, none⟩), undef, .pointer (some ⟨w.heap.size + 1, 0, none⟩), .pointer (some ⟨w.heap.size + 1 + 1, 0, none⟩), .slice none 0 0, .pointer (some ⟨x5.heap.size, 0, none⟩), .pointer (some ⟨x5.heap.size + 1, 0, none⟩), .pointer (some ⟨x5.heap.size + 1 + 1, 0, none⟩), .pointer (some ⟨B8, 0, none⟩), .agg #[.slice A1 xs.length c1, .slice A2 ys.length c2, .slice A3 rs.length c3], .agg #[.slice D1 xs.length f1, .slice D2 ys.length f2, .slice D3 rs.length f3], .int .i64 T, .agg #[.slice D1 xs.length f1, .slice D2 ys.length f2, .slice D3 rs.length f3, .int .i64 T, .int .i64 0, .int .u64 0, .int .u64 0, .int .u64 0, .int .u64 0], .int .i64 m, .bool false, undef, .agg #[.slice A1 xs.length c1, .slice A2 ys.length c2, .slice A3 rs.length c3], .int .i64 T, .func (.func 75) #[] #[.pointer (some ⟨X.heap.size, 0, none⟩), .pointer (some ⟨X.heap.size + 1, 0, none⟩)], .agg #[.int .i64 x.what, .int .i64 x.f, .slice x.A1 x.xs.length x.c1, .slice x.A2 x.ys.length x.c2, .slice x.A3 x.rs.length x.c3, .int .i64 T, .int .i64 x.f, .int .u64 (wrd 0 x.mv), .int .u64 (wrd 1 x.mv), .int .u64 (wrd 2 x.mv), .int .u64 (wrd 3 x.mv)], undef, undef, undef, undef, undef, undef, undef, undef, undef, undef, undef, undef, undef, undef, undef, undef, undef], defers := [] })
    (fun x a' V1 V2 ⟨B8, h1, h2, h3⟩ hs ha => ⟨B8, h1, ha.blk h2 (by omega), h3⟩)
    (fun x V1 V2 hm hb => ⟨hm.1.ext hb, hm.2⟩) ?assign ?body ?done ?stop
  case assign =>
    intro lp x V K hV hK
    clear sW sX
    simp only [EV.enc]
    gi_wp2
    exact hK _ _ ⟨V.heap.size, hV, Blk.new_ rfl rfl, rfl⟩ ((Below.refl _ _).alloc (Nat.le_refl _) _)
  case body =>
    rintro lp pre x G V a' ⟨⟨hi, hlt⟩, hn1, hy2⟩ hm ⟨B8, hB8, k8, rfl⟩ hlen hsz hG hHG
    have hvl : (vicP (pre.map EV.pl)).length ≤ 2000 := by have := vicP_len (pre.map EV.pl); rw [List.length_map] at this; have := HFL.out; omega
    have hplen : pre.length ≤ 2000 := by have := HFL.out; omega
    have HEX : Hid (vicP ((pre ++ [x]).map EV.pl) = vicP (pre.map EV.pl) ++ (if x.what = 3 then [x.f] else [])) := by show _ = _; rw [List.map_append]; exact vicP_snoc _ _
    obtain ⟨ee, hee_⟩ : ∃ e, wkE d pre = e := ⟨_, rfl⟩
    have KWV : Hid (Blk V x5.heap.size 66 #[.slice ee.A1 ee.xs.length ee.c1, .slice ee.A2 ee.ys.length ee.c2, .slice ee.A3 ee.rs.length ee.c3, .int .i64 T, .int .i64 ee.f, .int .u64 (wrd 0 ee.mv), .int .u64 (wrd 1 ee.mv), .int .u64 (wrd 2 ee.mv), .int .u64 (wrd 3 ee.mv)]) := by rw [← hee_]; exact hi.wk
    have KSV := Lib.hid hi.st
    have HGG := Lib.hid hG; have HHG := Lib.hid hHG
    have HBV := Lib.hid hi.bel
    have HIH := Lib.hid hi.hd
    have MNE : Hid (NeZ (fun k => k < W.heap.size + 2) x.A1 x.A2 x.A3 x.xs x.ys x.rs) := hm.2.1
    have MCH := Lib.hid hm.2.2; have MXV := Lib.hid hm.1
    have KNV := Lib.hid hn1; have KYV := Lib.hid hy2; have K8V := Lib.hid k8
    have hvb := hi.vb
    have hzB : w.heap.size + 3 ≤ V.heap.size := by have := hi.bel.size; omega
    have hb8V := k8.lt
    have hHW := sW; have hHX := sX
    clear hi hm k8 hG hHG hn1 hy2 hee_
    have e0 : V.cell? ⟨B8, 0, none⟩ = some (.int .i64 x.what) := (K8V.out.cell_ 0).trans (by simp)
    have e1 : V.cell? ⟨B8, 1, none⟩ = some (.int .i64 x.f) := (K8V.out.cell_ 1).trans (by simp)
    by_cases h3 : x.what = 3
    · have h3b : (x.what == 3) = true := by simpa using h3
      have HEX2 : Hid (vicP ((pre ++ [x]).map EV.pl) = vicP (pre.map EV.pl) ++ [x.f]) := by show _ = _; rw [HEX.out, if_pos h3]
      clear HEX h3
      obtain ⟨A, c, kb, ho, hg⟩ := hvb
      have hc0 : V.cell? ⟨x5.heap.size + 1, 0, none⟩ = some (.slice A (vicP (pre.map EV.pl)).length c) := (kb.cell_ 0).trans (by simp)
      have KB := Lib.hid kb; have HO := Lib.hid ho; have HG := Lib.hid hg
      clear kb ho hg hHW hHX sX sW
      have hzx : w.heap.size + 3 ≤ x5.heap.size + 1 := by omega
      gi_upto_region 10 with (gi_at_builtin; refine wpListIn_app_at _ rfl _ _ 22 rfl (w.heap.size + 3) 3 i0 (.int .i64 0) 1 8 Try.underlying22 hi0 hz0 hz1 hz2 rfl (by decide) _ _ _ rfl (World.ownsRow.alloc HO.out _) ⟨V.heap.size, 0, none⟩ 1 1 [.int .i64 x.f] rfl rfl (cell_one_new _ _ _) (by simp [Value.oneCell']) (by unfold maxLen; omega) (by omega) (by simp; omega) ?_; intro v' w1 hown' hgrow hat; obtain ⟨g', cap', rfl⟩ := ownsRow_succ hown'; have hk8' := VB.other HO.out K8V.out (by decide) hgrow; obtain ⟨hk1, ha1, hko, hbl, hvb⟩ := VB.app KB.out HO.out hzB hzx HG.out (fun hh => by have := HGG.out _ hh; have := HSX.out; have := HSW.out; omega) (fun g hh => (HGG.out g hh).2) hown' hgrow hat; have hc1 : w1.cell? ⟨x5.heap.size + 1, 0, none⟩ = some (.slice A (vicP (pre.map EV.pl)).length c) := (hk1.cell_ 0).trans (by simp); have hf1 := hk1.frozen_ 0; have HVB := Lib.hid hvb; have HA1 := Lib.hid ha1; have HKO := Lib.hid hko; have HBL := Lib.hid hbl; have HK8' := Lib.hid hk8'; clear hvb ha1 hko hbl hown' hgrow hat hk1 hk8')
      have sX := HSX.out; have sW := HSW.out
      clear hc0 hc1 hf1 e0 e1
      obtain ⟨V1, hV1⟩ : ∃ V1, w1.setCell ⟨x5.heap.size + 1, 0, none⟩ (.slice (some ⟨g', 0, none⟩) ((vicP (pre.map EV.pl)).length + 1) cap') = V1 := ⟨_, rfl⟩
      rw [hV1] at HVB HKO HBL
      have AV1 : Aside (fun k => k = x5.heap.size + 1) w1 V1 := by rw [← hV1]; exact (Aside.refl (fun k => k = x5.heap.size + 1) w1).setCell (p := ⟨x5.heap.size + 1, 0, none⟩) (.inr rfl) _
      have A01 : Hid (Aside (fun b => G b ∨ b = x5.heap.size ∨ b = x5.heap.size + 1 ∨ b = x5.heap.size + 1 + 1) V V1) := (HA1.out.wide fun k _ h => .inl h).trans (AV1.wide fun k _ h => .inr (.inr (.inl h)))
      have nG : ∀ k, k < W.heap.size → ¬ G k := fun k hk hh => by have := HGG.out k hh; omega
      have AG : Aside (fun b => G b ∨ b = x5.heap.size + 1) V V1 := (HA1.out.wide fun k _ h => .inl h).trans (AV1.wide fun k _ h => .inr h)
      have KO1 := HKO
      have KWO := Lib.hid (AG.blk KWV.out (fun hh => by rcases hh with hh | hh; exact nG _ (by omega) hh; omega))
      have KS := Lib.hid (AG.blk KSV.out (fun hh => by rcases hh with hh | hh; exact nG _ (by omega) hh; omega))
      have KN := Lib.hid (AG.blk KNV.out (fun hh => by rcases hh with hh | hh; exact nG _ (by omega) hh; omega))
      have KY := Lib.hid (AG.blk KYV.out (fun hh => by rcases hh with hh | hh; exact nG _ (by omega) hh; omega))
      have K8 := Lib.hid (AV1.blk HK8'.out (show ¬ B8 = x5.heap.size + 1 by omega))
      have MX : Hid (InMem V1 x.A1 x.A2 x.A3 x.xs x.ys x.rs) := MXV.out.aside AG (NeZ.of_hd _ fun k hk hh => by rcases hh with hh | hh; exact HHG.out k ⟨x, by simp, hk⟩ hh; exact MNE.out.hd hk (by omega))
      have BL : Hid (Below w.heap.size w V1) := HBV.out.trans (HBL.out.mono (by omega))
      have VBN : Hid (VB (w.heap.size + 3) (x5.heap.size + 1) (vicP ((pre ++ [x]).map EV.pl)) (Gn G V V1) V1) := by rw [HEX2.out]; exact HVB.out
      have zV1 := AG.size
      (try rw [hV1])
      clear hV1 AV1 AG HVB HA1 HKO HBL HK8' KWV KSV KNV KYV K8V MXV HBV KB HO HG
      have k8c := K8.out
      have f0 : V1.cell? ⟨B8, 0, none⟩ = some (.int .i64 x.what) := (K8.out.cell_ 0).trans (by simp)
      have f1 : V1.cell? ⟨B8, 1, none⟩ = some (.int .i64 x.f) := (K8.out.cell_ 1).trans (by simp)
      have f2 : V1.cell? ⟨B8, 2, none⟩ = some (.slice x.A1 x.xs.length x.c1) := (K8.out.cell_ 2).trans (by simp)
      have f3 : V1.cell? ⟨B8, 3, none⟩ = some (.slice x.A2 x.ys.length x.c2) := (K8.out.cell_ 3).trans (by simp)
      have f4 : V1.cell? ⟨B8, 4, none⟩ = some (.slice x.A3 x.rs.length x.c3) := (K8.out.cell_ 4).trans (by simp)
      have f5 : V1.cell? ⟨B8, 5, none⟩ = some (.int .i64 T) := (K8.out.cell_ 5).trans (by simp)
      have f6 : V1.cell? ⟨B8, 6, none⟩ = some (.int .i64 x.f) := (K8.out.cell_ 6).trans (by simp)
      have f7 : V1.cell? ⟨B8, 7, none⟩ = some (.int .u64 (wrd 0 x.mv)) := (K8.out.cell_ 7).trans (by simp)
      have f8 : V1.cell? ⟨B8, 8, none⟩ = some (.int .u64 (wrd 1 x.mv)) := (K8.out.cell_ 8).trans (by simp)
      have f9 : V1.cell? ⟨B8, 9, none⟩ = some (.int .u64 (wrd 2 x.mv)) := (K8.out.cell_ 9).trans (by simp)
      have f10 : V1.cell? ⟨B8, 10, none⟩ = some (.int .u64 (wrd 3 x.mv)) := (K8.out.cell_ 10).trans (by simp)
      have o0 : V1.cell? ⟨x5.heap.size, 0, none⟩ = some (.slice ee.A1 ee.xs.length ee.c1) := (KWO.out.cell_ 0).trans (by simp)
      have o1 : V1.cell? ⟨x5.heap.size, 1, none⟩ = some (.slice ee.A2 ee.ys.length ee.c2) := (KWO.out.cell_ 1).trans (by simp)
      have o2 : V1.cell? ⟨x5.heap.size, 2, none⟩ = some (.slice ee.A3 ee.rs.length ee.c3) := (KWO.out.cell_ 2).trans (by simp)
      have o3 : V1.cell? ⟨x5.heap.size, 3, none⟩ = some (.int .i64 T) := (KWO.out.cell_ 3).trans (by simp)
      have o4 : V1.cell? ⟨x5.heap.size, 4, none⟩ = some (.int .i64 ee.f) := (KWO.out.cell_ 4).trans (by simp)
      have o5 : V1.cell? ⟨x5.heap.size, 5, none⟩ = some (.int .u64 (wrd 0 ee.mv)) := (KWO.out.cell_ 5).trans (by simp)
      have o6 : V1.cell? ⟨x5.heap.size, 6, none⟩ = some (.int .u64 (wrd 1 ee.mv)) := (KWO.out.cell_ 6).trans (by simp)
      have o7 : V1.cell? ⟨x5.heap.size, 7, none⟩ = some (.int .u64 (wrd 2 ee.mv)) := (KWO.out.cell_ 7).trans (by simp)
      have o8 : V1.cell? ⟨x5.heap.size, 8, none⟩ = some (.int .u64 (wrd 3 ee.mv)) := (KWO.out.cell_ 8).trans (by simp)
      have g0 := KWO.out.frozen_ 0
      have g1 := KWO.out.frozen_ 1
      have g2 := KWO.out.frozen_ 2
      have g3 := KWO.out.frozen_ 3
      have g4 := KWO.out.frozen_ 4
      have g5 := KWO.out.frozen_ 5
      have g6 := KWO.out.frozen_ 6
      have g7 := KWO.out.frozen_ 7
      have g8 := KWO.out.frozen_ 8
      have hb8 : B8 < V1.heap.size := K8.out.lt
      have hbw1 : x5.heap.size < V1.heap.size := KWO.out.lt
      have nb8 : B8 ≠ x5.heap.size := by omega
      have nb9 : x5.heap.size ≠ B8 := by omega
      clear k8c
      have HSX' := HSX; have HSW' := HSW
      clear sX sW
      gi_upto_region 11 with fail
      clear f0 f1 f2 f3 f4 f5 f6 f7 f8 f9 f10 o0 o1 o2 o3 o4 o5 o6 o7 o8 g0 g1 g2 g3 g4 g5 g6 g7 g8
      have sX := HSX.out; have sW := HSW.out
      obtain ⟨V2, hV2⟩ : ∃ V2, (((((((((V1.setCell ⟨x5.heap.size, 0, none⟩ (.slice x.A1 x.xs.length x.c1)).setCell ⟨x5.heap.size, 1, none⟩ (.slice x.A2 x.ys.length x.c2)).setCell ⟨x5.heap.size, 2, none⟩ (.slice x.A3 x.rs.length x.c3)).setCell ⟨x5.heap.size, 3, none⟩ (.int .i64 T)).setCell ⟨x5.heap.size, 4, none⟩ (.int .i64 x.f)).setCell ⟨x5.heap.size, 5, none⟩ (.int .u64 (wrd 0 x.mv))).setCell ⟨x5.heap.size, 6, none⟩ (.int .u64 (wrd 1 x.mv))).setCell ⟨x5.heap.size, 7, none⟩ (.int .u64 (wrd 2 x.mv))).setCell ⟨x5.heap.size, 8, none⟩ (.int .u64 (wrd 3 x.mv))) = V2 := ⟨_, rfl⟩
      have A2 : Hid (Aside (fun k => k = x5.heap.size) V1 V2) := by show Aside _ _ _; rw [← hV2]; exact ((((((((((Aside.refl (fun k => k = x5.heap.size) V1).setCell (p := ⟨x5.heap.size, 0, none⟩) (.inr rfl) _).setCell (p := ⟨x5.heap.size, 1, none⟩) (.inr rfl) _).setCell (p := ⟨x5.heap.size, 2, none⟩) (.inr rfl) _).setCell (p := ⟨x5.heap.size, 3, none⟩) (.inr rfl) _).setCell (p := ⟨x5.heap.size, 4, none⟩) (.inr rfl) _).setCell (p := ⟨x5.heap.size, 5, none⟩) (.inr rfl) _).setCell (p := ⟨x5.heap.size, 6, none⟩) (.inr rfl) _).setCell (p := ⟨x5.heap.size, 7, none⟩) (.inr rfl) _).setCell (p := ⟨x5.heap.size, 8, none⟩) (.inr rfl) _)
      have KO2 : Hid (KeepsOthers V1 V2) := by
        show KeepsOthers _ _
        rw [← hV2]
        exact ((((((((KeepsOthers.setCell V1 _ _).trans (KeepsOthers.setCell _ _ _)).trans (KeepsOthers.setCell _ _ _)).trans (KeepsOthers.setCell _ _ _)).trans (KeepsOthers.setCell _ _ _)).trans (KeepsOthers.setCell _ _ _)).trans (KeepsOthers.setCell _ _ _)).trans (KeepsOthers.setCell _ _ _)).trans (KeepsOthers.setCell _ _ _)
      have KW2 : Hid (Blk V2 (x5.heap.size) 66 #[.slice x.A1 x.xs.length x.c1, .slice x.A2 x.ys.length x.c2, .slice x.A3 x.rs.length x.c3, .int .i64 T, .int .i64 x.f, .int .u64 (wrd 0 x.mv), .int .u64 (wrd 1 x.mv), .int .u64 (wrd 2 x.mv), .int .u64 (wrd 3 x.mv)]) := by
        show Blk _ _ _ _
        rw [← hV2]
        simpa using (((((((((KWO.out.set_ 0 (.slice x.A1 x.xs.length x.c1)).set_ 1 (.slice x.A2 x.ys.length x.c2)).set_ 2 (.slice x.A3 x.rs.length x.c3)).set_ 3 (.int .i64 T)).set_ 4 (.int .i64 x.f)).set_ 5 (.int .u64 (wrd 0 x.mv))).set_ 6 (.int .u64 (wrd 1 x.mv))).set_ 7 (.int .u64 (wrd 2 x.mv))).set_ 8 (.int .u64 (wrd 3 x.mv)))
      have KS2 := Lib.hid (A2.out.blk KS.out (show ¬ x5.heap.size + 1 + 1 = x5.heap.size by omega))
      have KN2 := Lib.hid (A2.out.blk KN.out (show ¬ w.heap.size + 1 = x5.heap.size by omega))
      have KY2 := Lib.hid (A2.out.blk KY.out (show ¬ w.heap.size + 1 + 1 = x5.heap.size by omega))
      (try rw [hV2])
      clear hV2
      have j0 : V2.cell? ⟨x5.heap.size + 1 + 1, 0, none⟩ = some (.int .i64 pre.length) := (KS2.out.cell_ 0).trans (by simp)
      have j1 : V2.cell? ⟨w.heap.size + 1, 0, none⟩ = some (.int .i64 m) := (KN2.out.cell_ 0).trans (by simp)
      have j2 := KS2.out.frozen_ 0
      have nbs : x5.heap.size + 1 + 1 ≠ w.heap.size + 1 := by omega
      have nbt : w.heap.size + 1 ≠ x5.heap.size + 1 + 1 := by omega
      obtain ⟨V3, hV3⟩ : ∃ V3, V2.setCell ⟨x5.heap.size + 1 + 1, 0, none⟩ (.int .i64 ((pre.length : Int) + 1)) = V3 := ⟨_, rfl⟩
      have A3' : Aside (fun k => k = x5.heap.size + 1 + 1) V2 V3 := by rw [← hV3]; exact (Aside.refl (fun k => k = x5.heap.size + 1 + 1) V2).setCell (p := ⟨x5.heap.size + 1 + 1, 0, none⟩) (.inr rfl) _
      have A13 : Hid (Aside (fun k => k = x5.heap.size ∨ k = x5.heap.size + 1 + 1) V1 V3) := (A2.out.wide fun k _ h => .inl h).trans (A3'.wide fun k _ h => .inr h)
      have KO3 : Hid (KeepsOthers V V3) := (KO1.out.trans KO2.out).trans (by rw [← hV3]; exact KeepsOthers.setCell _ _ _)
      have A03 : Hid (Aside (fun b => G b ∨ b = x5.heap.size ∨ b = x5.heap.size + 1 ∨ b = x5.heap.size + 1 + 1) V V3) := A01.out.trans (A13.out.wide fun k _ h => by rcases h with h | h; exact .inr (.inl h); exact .inr (.inr (.inr h)))
      have KS3 : Blk V3 (x5.heap.size + 1 + 1) 3 #[.int .i64 ((pre.length : Int) + 1)] := by rw [← hV3]; simpa using KS2.out.set_ 0 (.int .i64 ((pre.length : Int) + 1))
      have KN3 := A3'.blk KN2.out (show ¬ w.heap.size + 1 = x5.heap.size + 1 + 1 by omega)
      have KY3 := Lib.hid (A3'.blk KY2.out (show ¬ w.heap.size + 1 + 1 = x5.heap.size + 1 + 1 by omega))
      have KW3 := A3'.blk KW2.out (show ¬ x5.heap.size = x5.heap.size + 1 + 1 by omega)
      have KN3' := Lib.hid KN3
      have RI3 : Hid (RIc T w x5.heap.size d (pre ++ [x]) (Gn G V V3) V3) := by
        have e := wkE_snoc d pre x
        refine ⟨by rw [e]; exact KW3, by rw [List.length_append, List.length_singleton]; simpa using KS3, ?_, BL.out.trans (A13.out.below (by omega) fun k hk e => by omega), by rw [e]; exact MX.out.aside A13.out (MNE.out.sub fun k hk => by omega), by rw [e]; exact MCH.out, by rw [e]; exact MNE.out.sub fun k hk => by omega, fun k hk => by rcases evH_snoc _ _ _ hk with hk | hk; exact HIH.out k hk; have := MNE.out.hd (evH_one hk); omega⟩
        refine (VBN.out.aside A13.out (by omega) fun g hg e => ?_).mono fun g hg => ?_
        · rcases hg with hg | hg
          · have := HGG.out g hg; omega
          · omega
        · rcases hg with hg | hg
          · exact .inl hg
          · exact .inr ⟨hg.1, by have := A13.out.size; omega⟩
      have j3 : V3.cell? ⟨x5.heap.size + 1 + 1, 0, none⟩ = some (.int .i64 ((pre.length : Int) + 1)) := (KS3.cell_ 0).trans (by simp)
      have j4 : V3.cell? ⟨w.heap.size + 1, 0, none⟩ = some (.int .i64 m) := (KN3.cell_ 0).trans (by simp)
      clear A3' KS3 KN3 KW3
      have hpl : (pre.length : Int) ≤ 2000 := by omega
      clear sX sW
      by_cases hend : pre.length + 1 = m
      · have hee : ((pre.length : Int) + 1 == m) = true := by simpa using (by omega : (pre.length : Int) + 1 = m)
        gi_wp2
        (try rw [hV3])
        exact ⟨KO3.out.from _, A03.out.size, rfl, ⟨RI3.out, by simpa using hend⟩, KY3.out⟩
      · have hee : ((pre.length : Int) + 1 == m) = false := by rw [beq_eq_false_iff_ne]; omega
        gi_wp2
        (try rw [hV3])
        exact ⟨KO3.out.from _, A03.out, ⟨RI3.out, by simp; omega⟩, KN3'.out, KY3.out⟩
    · have h3b : (x.what == 3) = false := by simpa using h3
      have HEX2 : Hid (vicP ((pre ++ [x]).map EV.pl) = vicP (pre.map EV.pl)) := by show _ = _; rw [HEX.out, if_neg h3, List.append_nil]
      clear HEX h3 hHW hHX
      have A01 : Hid (Aside (fun b => G b ∨ b = x5.heap.size ∨ b = x5.heap.size + 1 ∨ b = x5.heap.size + 1 + 1) V V) := Aside.refl _ _
      have KO1 : Hid (KeepsOthers V V) := KeepsOthers.refl _
      have VBN : Hid (VB (w.heap.size + 3) (x5.heap.size + 1) (vicP ((pre ++ [x]).map EV.pl)) (Gn G V V) V) := by show VB _ _ _ _ _; rw [HEX2.out]; exact hvb.mono fun g hg => .inl hg
      have KWO := KWV; have KS := KSV; have KN := KNV; have KY := KYV; have K8 := K8V; have MX := MXV; have BL := HBV
      have zV1 : V.heap.size ≤ V.heap.size := Nat.le_refl _
      clear sX sW
      gi_upto_region 10 with fail
      have sX := HSX.out; have sW := HSW.out
      clear e0 e1 hvb KWV KSV KNV KYV K8V MXV HBV zV1
      have k8c := K8.out
      have f0 : V.cell? ⟨B8, 0, none⟩ = some (.int .i64 x.what) := (K8.out.cell_ 0).trans (by simp)
      have f1 : V.cell? ⟨B8, 1, none⟩ = some (.int .i64 x.f) := (K8.out.cell_ 1).trans (by simp)
      have f2 : V.cell? ⟨B8, 2, none⟩ = some (.slice x.A1 x.xs.length x.c1) := (K8.out.cell_ 2).trans (by simp)
      have f3 : V.cell? ⟨B8, 3, none⟩ = some (.slice x.A2 x.ys.length x.c2) := (K8.out.cell_ 3).trans (by simp)
      have f4 : V.cell? ⟨B8, 4, none⟩ = some (.slice x.A3 x.rs.length x.c3) := (K8.out.cell_ 4).trans (by simp)
      have f5 : V.cell? ⟨B8, 5, none⟩ = some (.int .i64 T) := (K8.out.cell_ 5).trans (by simp)
      have f6 : V.cell? ⟨B8, 6, none⟩ = some (.int .i64 x.f) := (K8.out.cell_ 6).trans (by simp)
      have f7 : V.cell? ⟨B8, 7, none⟩ = some (.int .u64 (wrd 0 x.mv)) := (K8.out.cell_ 7).trans (by simp)
      have f8 : V.cell? ⟨B8, 8, none⟩ = some (.int .u64 (wrd 1 x.mv)) := (K8.out.cell_ 8).trans (by simp)
      have f9 : V.cell? ⟨B8, 9, none⟩ = some (.int .u64 (wrd 2 x.mv)) := (K8.out.cell_ 9).trans (by simp)
      have f10 : V.cell? ⟨B8, 10, none⟩ = some (.int .u64 (wrd 3 x.mv)) := (K8.out.cell_ 10).trans (by simp)
      have o0 : V.cell? ⟨x5.heap.size, 0, none⟩ = some (.slice ee.A1 ee.xs.length ee.c1) := (KWO.out.cell_ 0).trans (by simp)
      have o1 : V.cell? ⟨x5.heap.size, 1, none⟩ = some (.slice ee.A2 ee.ys.length ee.c2) := (KWO.out.cell_ 1).trans (by simp)
      have o2 : V.cell? ⟨x5.heap.size, 2, none⟩ = some (.slice ee.A3 ee.rs.length ee.c3) := (KWO.out.cell_ 2).trans (by simp)
      have o3 : V.cell? ⟨x5.heap.size, 3, none⟩ = some (.int .i64 T) := (KWO.out.cell_ 3).trans (by simp)
      have o4 : V.cell? ⟨x5.heap.size, 4, none⟩ = some (.int .i64 ee.f) := (KWO.out.cell_ 4).trans (by simp)
      have o5 : V.cell? ⟨x5.heap.size, 5, none⟩ = some (.int .u64 (wrd 0 ee.mv)) := (KWO.out.cell_ 5).trans (by simp)
      have o6 : V.cell? ⟨x5.heap.size, 6, none⟩ = some (.int .u64 (wrd 1 ee.mv)) := (KWO.out.cell_ 6).trans (by simp)
      have o7 : V.cell? ⟨x5.heap.size, 7, none⟩ = some (.int .u64 (wrd 2 ee.mv)) := (KWO.out.cell_ 7).trans (by simp)
      have o8 : V.cell? ⟨x5.heap.size, 8, none⟩ = some (.int .u64 (wrd 3 ee.mv)) := (KWO.out.cell_ 8).trans (by simp)
      have g0 := KWO.out.frozen_ 0
      have g1 := KWO.out.frozen_ 1
      have g2 := KWO.out.frozen_ 2
      have g3 := KWO.out.frozen_ 3
      have g4 := KWO.out.frozen_ 4
      have g5 := KWO.out.frozen_ 5
      have g6 := KWO.out.frozen_ 6
      have g7 := KWO.out.frozen_ 7
      have g8 := KWO.out.frozen_ 8
      have hb8 : B8 < V.heap.size := K8.out.lt
      have hbw1 : x5.heap.size < V.heap.size := KWO.out.lt
      have nb8 : B8 ≠ x5.heap.size := by omega
      have nb9 : x5.heap.size ≠ B8 := by omega
      clear k8c
      have HSX' := HSX; have HSW' := HSW
      clear sX sW
      gi_upto_region 11 with fail
      clear f0 f1 f2 f3 f4 f5 f6 f7 f8 f9 f10 o0 o1 o2 o3 o4 o5 o6 o7 o8 g0 g1 g2 g3 g4 g5 g6 g7 g8
      have sX := HSX.out; have sW := HSW.out
      obtain ⟨V2, hV2⟩ : ∃ V2, (((((((((V.setCell ⟨x5.heap.size, 0, none⟩ (.slice x.A1 x.xs.length x.c1)).setCell ⟨x5.heap.size, 1, none⟩ (.slice x.A2 x.ys.length x.c2)).setCell ⟨x5.heap.size, 2, none⟩ (.slice x.A3 x.rs.length x.c3)).setCell ⟨x5.heap.size, 3, none⟩ (.int .i64 T)).setCell ⟨x5.heap.size, 4, none⟩ (.int .i64 x.f)).setCell ⟨x5.heap.size, 5, none⟩ (.int .u64 (wrd 0 x.mv))).setCell ⟨x5.heap.size, 6, none⟩ (.int .u64 (wrd 1 x.mv))).setCell ⟨x5.heap.size, 7, none⟩ (.int .u64 (wrd 2 x.mv))).setCell ⟨x5.heap.size, 8, none⟩ (.int .u64 (wrd 3 x.mv))) = V2 := ⟨_, rfl⟩
      have A2 : Hid (Aside (fun k => k = x5.heap.size) V V2) := by show Aside _ _ _; rw [← hV2]; exact ((((((((((Aside.refl (fun k => k = x5.heap.size) V).setCell (p := ⟨x5.heap.size, 0, none⟩) (.inr rfl) _).setCell (p := ⟨x5.heap.size, 1, none⟩) (.inr rfl) _).setCell (p := ⟨x5.heap.size, 2, none⟩) (.inr rfl) _).setCell (p := ⟨x5.heap.size, 3, none⟩) (.inr rfl) _).setCell (p := ⟨x5.heap.size, 4, none⟩) (.inr rfl) _).setCell (p := ⟨x5.heap.size, 5, none⟩) (.inr rfl) _).setCell (p := ⟨x5.heap.size, 6, none⟩) (.inr rfl) _).setCell (p := ⟨x5.heap.size, 7, none⟩) (.inr rfl) _).setCell (p := ⟨x5.heap.size, 8, none⟩) (.inr rfl) _)
      have KO2 : Hid (KeepsOthers V V2) := by
        show KeepsOthers _ _
        rw [← hV2]
        exact ((((((((KeepsOthers.setCell V _ _).trans (KeepsOthers.setCell _ _ _)).trans (KeepsOthers.setCell _ _ _)).trans (KeepsOthers.setCell _ _ _)).trans (KeepsOthers.setCell _ _ _)).trans (KeepsOthers.setCell _ _ _)).trans (KeepsOthers.setCell _ _ _)).trans (KeepsOthers.setCell _ _ _)).trans (KeepsOthers.setCell _ _ _)
      have KW2 : Hid (Blk V2 (x5.heap.size) 66 #[.slice x.A1 x.xs.length x.c1, .slice x.A2 x.ys.length x.c2, .slice x.A3 x.rs.length x.c3, .int .i64 T, .int .i64 x.f, .int .u64 (wrd 0 x.mv), .int .u64 (wrd 1 x.mv), .int .u64 (wrd 2 x.mv), .int .u64 (wrd 3 x.mv)]) := by
        show Blk _ _ _ _
        rw [← hV2]
        simpa using (((((((((KWO.out.set_ 0 (.slice x.A1 x.xs.length x.c1)).set_ 1 (.slice x.A2 x.ys.length x.c2)).set_ 2 (.slice x.A3 x.rs.length x.c3)).set_ 3 (.int .i64 T)).set_ 4 (.int .i64 x.f)).set_ 5 (.int .u64 (wrd 0 x.mv))).set_ 6 (.int .u64 (wrd 1 x.mv))).set_ 7 (.int .u64 (wrd 2 x.mv))).set_ 8 (.int .u64 (wrd 3 x.mv)))
      have KS2 := Lib.hid (A2.out.blk KS.out (show ¬ x5.heap.size + 1 + 1 = x5.heap.size by omega))
      have KN2 := Lib.hid (A2.out.blk KN.out (show ¬ w.heap.size + 1 = x5.heap.size by omega))
      have KY2 := Lib.hid (A2.out.blk KY.out (show ¬ w.heap.size + 1 + 1 = x5.heap.size by omega))
      (try rw [hV2])
      clear hV2
      have j0 : V2.cell? ⟨x5.heap.size + 1 + 1, 0, none⟩ = some (.int .i64 pre.length) := (KS2.out.cell_ 0).trans (by simp)
      have j1 : V2.cell? ⟨w.heap.size + 1, 0, none⟩ = some (.int .i64 m) := (KN2.out.cell_ 0).trans (by simp)
      have j2 := KS2.out.frozen_ 0
      have nbs : x5.heap.size + 1 + 1 ≠ w.heap.size + 1 := by omega
      have nbt : w.heap.size + 1 ≠ x5.heap.size + 1 + 1 := by omega
      obtain ⟨V3, hV3⟩ : ∃ V3, V2.setCell ⟨x5.heap.size + 1 + 1, 0, none⟩ (.int .i64 ((pre.length : Int) + 1)) = V3 := ⟨_, rfl⟩
      have A3' : Aside (fun k => k = x5.heap.size + 1 + 1) V2 V3 := by rw [← hV3]; exact (Aside.refl (fun k => k = x5.heap.size + 1 + 1) V2).setCell (p := ⟨x5.heap.size + 1 + 1, 0, none⟩) (.inr rfl) _
      have A13 : Hid (Aside (fun k => k = x5.heap.size ∨ k = x5.heap.size + 1 + 1) V V3) := (A2.out.wide fun k _ h => .inl h).trans (A3'.wide fun k _ h => .inr h)
      have KO3 : Hid (KeepsOthers V V3) := (KO1.out.trans KO2.out).trans (by rw [← hV3]; exact KeepsOthers.setCell _ _ _)
      have A03 : Hid (Aside (fun b => G b ∨ b = x5.heap.size ∨ b = x5.heap.size + 1 ∨ b = x5.heap.size + 1 + 1) V V3) := A01.out.trans (A13.out.wide fun k _ h => by rcases h with h | h; exact .inr (.inl h); exact .inr (.inr (.inr h)))
      have KS3 : Blk V3 (x5.heap.size + 1 + 1) 3 #[.int .i64 ((pre.length : Int) + 1)] := by rw [← hV3]; simpa using KS2.out.set_ 0 (.int .i64 ((pre.length : Int) + 1))
      have KN3 := A3'.blk KN2.out (show ¬ w.heap.size + 1 = x5.heap.size + 1 + 1 by omega)
      have KY3 := Lib.hid (A3'.blk KY2.out (show ¬ w.heap.size + 1 + 1 = x5.heap.size + 1 + 1 by omega))
      have KW3 := A3'.blk KW2.out (show ¬ x5.heap.size = x5.heap.size + 1 + 1 by omega)
      have KN3' := Lib.hid KN3
      have RI3 : Hid (RIc T w x5.heap.size d (pre ++ [x]) (Gn G V V3) V3) := by
        have e := wkE_snoc d pre x
        refine ⟨by rw [e]; exact KW3, by rw [List.length_append, List.length_singleton]; simpa using KS3, ?_, BL.out.trans (A13.out.below (by omega) fun k hk e => by omega), by rw [e]; exact MX.out.aside A13.out (MNE.out.sub fun k hk => by omega), by rw [e]; exact MCH.out, by rw [e]; exact MNE.out.sub fun k hk => by omega, fun k hk => by rcases evH_snoc _ _ _ hk with hk | hk; exact HIH.out k hk; have := MNE.out.hd (evH_one hk); omega⟩
        refine (VBN.out.aside A13.out (by omega) fun g hg e => ?_).mono fun g hg => ?_
        · rcases hg with hg | hg
          · have := HGG.out g hg; omega
          · omega
        · rcases hg with hg | hg
          · exact .inl hg
          · exact .inr ⟨hg.1, by have := A13.out.size; omega⟩
      have j3 : V3.cell? ⟨x5.heap.size + 1 + 1, 0, none⟩ = some (.int .i64 ((pre.length : Int) + 1)) := (KS3.cell_ 0).trans (by simp)
      have j4 : V3.cell? ⟨w.heap.size + 1, 0, none⟩ = some (.int .i64 m) := (KN3.cell_ 0).trans (by simp)
      clear A3' KS3 KN3 KW3
      have hpl : (pre.length : Int) ≤ 2000 := by omega
      clear sX sW
      by_cases hend : pre.length + 1 = m
      · have hee : ((pre.length : Int) + 1 == m) = true := by simpa using (by omega : (pre.length : Int) + 1 = m)
        gi_wp2
        (try rw [hV3])
        exact ⟨KO3.out.from _, A03.out.size, rfl, ⟨RI3.out, by simpa using hend⟩, KY3.out⟩
      · have hee : ((pre.length : Int) + 1 == m) = false := by rw [beq_eq_false_iff_ne]; omega
        gi_wp2
        (try rw [hV3])
        exact ⟨KO3.out.from _, A03.out, ⟨RI3.out, by simp; omega⟩, KN3'.out, KY3.out⟩
  case done =>
    rintro pre G V hS ⟨⟨hi, hlt⟩, hn1, hy2⟩ hsz hK
    have HTK : Hid ((full T xs ys rs []).take m = pre.map EV.pl) := by
      show _ = _
      rw [← hS]
      exact List.take_of_length_le (by rw [List.length_map]; omega)
    clear hS hlt hn1
    obtain ⟨ee, hee⟩ : ∃ e, wkE d pre = e := ⟨_, rfl⟩
    have KW : Hid (Blk V x5.heap.size 66 #[.slice ee.A1 ee.xs.length ee.c1, .slice ee.A2 ee.ys.length ee.c2, .slice ee.A3 ee.rs.length ee.c3, .int .i64 T, .int .i64 ee.f, .int .u64 (wrd 0 ee.mv), .int .u64 (wrd 1 ee.mv), .int .u64 (wrd 2 ee.mv), .int .u64 (wrd 3 ee.mv)]) := by rw [← hee]; exact hi.wk
    have ME : Hid (InMem V ee.A1 ee.A2 ee.A3 ee.xs ee.ys ee.rs) := by rw [← hee]; exact hi.mem
    have MC : Hid (lruChk ee.xs ee.ys ee.rs = 0) := by show _ = _; rw [← hee]; exact hi.chk
    have MN : Hid (NeZ (fun k => k < w.heap.size) ee.A1 ee.A2 ee.A3 ee.xs ee.ys ee.rs) := by rw [← hee]; exact hi.ne
    have HB := Lib.hid hi.bel
    have MH : Hid (∀ k, HL ee.A1 ee.A2 ee.A3 ee.xs ee.ys ee.rs k → k ≠ w.heap.size + 1 + 1) := by
      show ∀ k, _
      intro k hk e
      have hk' : (wkE d pre).hd k := by rw [hee]; exact hk
      rcases wkE_hd hk' with h | h
      · rw [HDD.out] at h
        have := HND.out.hd_lo h
        omega
      · have := hi.hd k h; omega
    obtain ⟨A, c, kb, ho, hg⟩ := hi.vb
    obtain ⟨vs, hvs⟩ : ∃ l, vicP (pre.map EV.pl) = l := ⟨_, rfl⟩
    rw [hvs] at kb ho
    have HR : Hid (runE T xs ys rs m = ee.pl ∧ vicP ((full T xs ys rs []).take m) = vs) := by
      refine ⟨?_, by rw [HTK.out, hvs]⟩
      unfold runE
      rw [HTK.out, ← hee]
      exact wkE_pl HDD.out pre
    have HV := Lib.hid kb; have HO := Lib.hid ho; have HK := Lib.hid hK; have HY := Lib.hid hy2
    have HSX' := HSX; have HSW' := HSW
    have s0 : V.cell? ⟨x5.heap.size, 0, none⟩ = some (.slice ee.A1 ee.xs.length ee.c1) := (KW.out.cell_ 0).trans (by simp)
    have s1 : V.cell? ⟨x5.heap.size, 1, none⟩ = some (.slice ee.A2 ee.ys.length ee.c2) := (KW.out.cell_ 1).trans (by simp)
    have s2 : V.cell? ⟨x5.heap.size, 2, none⟩ = some (.slice ee.A3 ee.rs.length ee.c3) := (KW.out.cell_ 2).trans (by simp)
    have s3 : V.cell? ⟨x5.heap.size, 3, none⟩ = some (.int .i64 T) := (KW.out.cell_ 3).trans (by simp)
    have s4 : V.cell? ⟨x5.heap.size, 4, none⟩ = some (.int .i64 ee.f) := (KW.out.cell_ 4).trans (by simp)
    have s5 : V.cell? ⟨x5.heap.size, 5, none⟩ = some (.int .u64 (wrd 0 ee.mv)) := (KW.out.cell_ 5).trans (by simp)
    have s6 : V.cell? ⟨x5.heap.size, 6, none⟩ = some (.int .u64 (wrd 1 ee.mv)) := (KW.out.cell_ 6).trans (by simp)
    have s7 : V.cell? ⟨x5.heap.size, 7, none⟩ = some (.int .u64 (wrd 2 ee.mv)) := (KW.out.cell_ 7).trans (by simp)
    have s8 : V.cell? ⟨x5.heap.size, 8, none⟩ = some (.int .u64 (wrd 3 ee.mv)) := (KW.out.cell_ 8).trans (by simp)
    have v0 : V.cell? ⟨x5.heap.size + 1, 0, none⟩ = some (.slice A vs.length c) := (kb.cell_ 0).trans (by simp)
    have y0 : V.cell? ⟨w.heap.size + 1 + 1, 0, none⟩ = some (.slice none 0 0) := (HY.out.cell_ 0).trans (by simp)
    have y1 : V.cell? ⟨w.heap.size + 1 + 1, 1, none⟩ = some (.slice none 0 0) := (HY.out.cell_ 1).trans (by simp)
    have y2 : V.cell? ⟨w.heap.size + 1 + 1, 2, none⟩ = some (.slice none 0 0) := (HY.out.cell_ 2).trans (by simp)
    have y3 : V.cell? ⟨w.heap.size + 1 + 1, 3, none⟩ = some (.int .i64 0) := (HY.out.cell_ 3).trans (by simp)
    have y4 : V.cell? ⟨w.heap.size + 1 + 1, 4, none⟩ = some (.int .i64 0) := (HY.out.cell_ 4).trans (by simp)
    have y5 : V.cell? ⟨w.heap.size + 1 + 1, 5, none⟩ = some (.int .u64 0) := (HY.out.cell_ 5).trans (by simp)
    have y6 : V.cell? ⟨w.heap.size + 1 + 1, 6, none⟩ = some (.int .u64 0) := (HY.out.cell_ 6).trans (by simp)
    have y7 : V.cell? ⟨w.heap.size + 1 + 1, 7, none⟩ = some (.int .u64 0) := (HY.out.cell_ 7).trans (by simp)
    have y8 : V.cell? ⟨w.heap.size + 1 + 1, 8, none⟩ = some (.int .u64 0) := (HY.out.cell_ 8).trans (by simp)
    have g0 := HY.out.frozen_ 0
    have g1 := HY.out.frozen_ 1
    have g2 := HY.out.frozen_ 2
    have g3 := HY.out.frozen_ 3
    have g4 := HY.out.frozen_ 4
    have g5 := HY.out.frozen_ 5
    have g6 := HY.out.frozen_ 6
    have g7 := HY.out.frozen_ 7
    have g8 := HY.out.frozen_ 8
    have nfw : x5.heap.size ≠ w.heap.size + 1 + 1 := by omega
    have nfv : x5.heap.size + 1 ≠ w.heap.size + 1 + 1 := by omega
    have HDL : Hid (w.heap.size + 3 ≤ W.heap.size ∧ W.heap.size ≠ w.heap.size + 1 + 1) := ⟨by omega, by omega⟩
    clear hi hee kb ho hg hvs hK hy2 sX sW
    gi_wp2
    refine wpIn_quiet (wpIn_region_held_drew (.inl rfl) (by omega) (by kernel_rfl) (by rintro ⟨_, _, hh⟩; exact hh) (S := (fun U => U.cell? ⟨x5.heap.size, 0, none⟩ = some (.slice ee.A1 ee.xs.length ee.c1) ∧ U.cell? ⟨x5.heap.size, 1, none⟩ = some (.slice ee.A2 ee.ys.length ee.c2) ∧ U.cell? ⟨x5.heap.size, 2, none⟩ = some (.slice ee.A3 ee.rs.length ee.c3) ∧ U.cell? ⟨x5.heap.size, 3, none⟩ = some (.int .i64 T) ∧ U.cell? ⟨x5.heap.size, 4, none⟩ = some (.int .i64 ee.f) ∧ U.cell? ⟨x5.heap.size, 5, none⟩ = some (.int .u64 (wrd 0 ee.mv)) ∧ U.cell? ⟨x5.heap.size, 6, none⟩ = some (.int .u64 (wrd 1 ee.mv)) ∧ U.cell? ⟨x5.heap.size, 7, none⟩ = some (.int .u64 (wrd 2 ee.mv)) ∧ U.cell? ⟨x5.heap.size, 8, none⟩ = some (.int .u64 (wrd 3 ee.mv)) ∧ U.cell? ⟨x5.heap.size + 1, 0, none⟩ = some (.slice A vs.length c))) (by kernel_rfl) ?_ (fun hHeld => ?_))
    · (exact ⟨s0, s1, s2, s3, s4, s5, s6, s7, s8, v0⟩)
    refine wpAnyH_take (i := 0) (oi := ?oic0) (v := ?vc0) ?hic0 (by kernel_rfl) (by kernel_rfl) (by kernel_rfl) ?hQc0 ?hyc0 (by assumption) ?restc0
    case hic0 => (simp only [List.getElem?_toArray, List.getElem?_cons_succ, List.getElem?_cons_zero]; rfl)
    case hQc0 => exact fun _ _ _ h => h
    case hyc0 => (refine Or.inl ⟨by rfl, ?_⟩; intro w hSw; (try dsimp only at hSw); go_simp; first | done | with_reducible rfl)
    (try simp only [Act.put, List.setIfInBounds_toArray, List.set_cons_zero, List.set_cons_succ])
    refine wpAnyH_take (i := 1) (oi := ?oic1) (v := ?vc1) ?hic1 (by kernel_rfl) (by kernel_rfl) (by kernel_rfl) ?hQc1 ?hyc1 (by assumption) ?restc1
    case hic1 => (simp only [List.getElem?_toArray, List.getElem?_cons_succ, List.getElem?_cons_zero]; rfl)
    case hQc1 => exact fun _ _ _ h => h
    case hyc1 => (refine Or.inl ⟨by rfl, ?_⟩; intro w hSw; (try dsimp only at hSw); go_simp; first | done | with_reducible rfl)
    (try simp only [Act.put, List.setIfInBounds_toArray, List.set_cons_zero, List.set_cons_succ])
    refine wpAnyH_ready (rs := [2]) (by kernel_rfl) (by simp) ?_
    refine AllReadyH.cons (o := ?oic2) ?hic2 (fun K hK => ?stepc2) AllReadyH.nil
    case hic2 => (simp only [List.getElem?_toArray, List.getElem?_cons_succ, List.getElem?_cons_zero]; rfl)
    go_simp
    refine hK.out _ _ ?_ (fun hHeld => ?_)
    · (refine ⟨?_, ?_, ?_, ?_, ?_, ?_, ?_, ?_, ?_, ?_⟩ <;> first | exact far9d_ (by assumption) nfw | exact far9d_ (by assumption) nfv)
    clear hK K
    (try simp only [Act.put, List.setIfInBounds_toArray, List.set_cons_zero, List.set_cons_succ])
    refine wpAnyH_take (i := 3) (oi := ?oic3) (v := ?vc3) ?hic3 (by kernel_rfl) (by kernel_rfl) (by kernel_rfl) ?hQc3 ?hyc3 (by assumption) ?restc3
    case hic3 => (simp only [List.getElem?_toArray, List.getElem?_cons_succ, List.getElem?_cons_zero]; rfl)
    case hQc3 => exact fun _ _ _ h => h
    case hyc3 => (refine Or.inl ⟨by rfl, ?_⟩; intro w hSw; (try dsimp only at hSw); go_simp; first | done | with_reducible rfl)
    (try simp only [Act.put, List.setIfInBounds_toArray, List.set_cons_zero, List.set_cons_succ])
    refine wpAnyH_done (by kernel_rfl) ?_ _
    obtain ⟨U, hU⟩ : ∃ U, (((((((((V.setCell ⟨w.heap.size + 1 + 1, 0, none⟩ (.slice ee.A1 ee.xs.length ee.c1)).setCell ⟨w.heap.size + 1 + 1, 1, none⟩ (.slice ee.A2 ee.ys.length ee.c2)).setCell ⟨w.heap.size + 1 + 1, 2, none⟩ (.slice ee.A3 ee.rs.length ee.c3)).setCell ⟨w.heap.size + 1 + 1, 3, none⟩ (.int .i64 T)).setCell ⟨w.heap.size + 1 + 1, 4, none⟩ (.int .i64 ee.f)).setCell ⟨w.heap.size + 1 + 1, 5, none⟩ (.int .u64 (wrd 0 ee.mv))).setCell ⟨w.heap.size + 1 + 1, 6, none⟩ (.int .u64 (wrd 1 ee.mv))).setCell ⟨w.heap.size + 1 + 1, 7, none⟩ (.int .u64 (wrd 2 ee.mv))).setCell ⟨w.heap.size + 1 + 1, 8, none⟩ (.int .u64 (wrd 3 ee.mv))).drew = U := ⟨_, rfl⟩
    have AU : Aside (fun k => k = w.heap.size + 1 + 1) V U := by rw [← hU]; exact (((((((((((Aside.refl (fun k => k = w.heap.size + 1 + 1) V).setCell (p := ⟨w.heap.size + 1 + 1, 0, none⟩) (.inr rfl) _).setCell (p := ⟨w.heap.size + 1 + 1, 1, none⟩) (.inr rfl) _).setCell (p := ⟨w.heap.size + 1 + 1, 2, none⟩) (.inr rfl) _).setCell (p := ⟨w.heap.size + 1 + 1, 3, none⟩) (.inr rfl) _).setCell (p := ⟨w.heap.size + 1 + 1, 4, none⟩) (.inr rfl) _).setCell (p := ⟨w.heap.size + 1 + 1, 5, none⟩) (.inr rfl) _).setCell (p := ⟨w.heap.size + 1 + 1, 6, none⟩) (.inr rfl) _).setCell (p := ⟨w.heap.size + 1 + 1, 7, none⟩) (.inr rfl) _).setCell (p := ⟨w.heap.size + 1 + 1, 8, none⟩) (.inr rfl) _)).trans (Aside.of_below (Below.refl _ _).drew)
    have KU : Blk U (w.heap.size + 1 + 1) 66 #[.slice ee.A1 ee.xs.length ee.c1, .slice ee.A2 ee.ys.length ee.c2, .slice ee.A3 ee.rs.length ee.c3, .int .i64 T, .int .i64 ee.f, .int .u64 (wrd 0 ee.mv), .int .u64 (wrd 1 ee.mv), .int .u64 (wrd 2 ee.mv), .int .u64 (wrd 3 ee.mv)] := by
      rw [← hU]
      exact Blk.drew_ (by simpa using (((((((((HY.out.set_ 0 (.slice ee.A1 ee.xs.length ee.c1)).set_ 1 (.slice ee.A2 ee.ys.length ee.c2)).set_ 2 (.slice ee.A3 ee.rs.length ee.c3)).set_ 3 (.int .i64 T)).set_ 4 (.int .i64 ee.f)).set_ 5 (.int .u64 (wrd 0 ee.mv))).set_ 6 (.int .u64 (wrd 1 ee.mv))).set_ 7 (.int .u64 (wrd 2 ee.mv))).set_ 8 (.int .u64 (wrd 3 ee.mv))))
    have OU := HO.out.aside AU fun g e hh => by have h1 := (HO.out.block g e).1; omega
    have MU := ME.out.aside AU (NeZ.of_hd _ fun k hk => MH.out k hk)
    have BU := HB.out.trans (AU.below (B := w.heap.size) (by have := HB.out.size; omega) fun k hk e => by omega)
    have KD : U.heap[W.heap.size]? = some (.deferred (some [])) := (AU.block W.heap.size (by have := (Array.getElem?_eq_some_iff.1 HK.out).1; omega) (fun e => HDL.out.2 e)).trans HK.out
    (try rw [hU])
    simp only [Quiet]
    gi_wp2
    show LeavesInM _ _ _ _ _ _ _ _ _
    refine run_end (R := runE T xs ys rs m) (vs' := vicP ((full T xs ys rs []).take m)) KU MU MN.out MC.out OU BU HDL.out.1 KD ?_ ?_ HR.out.1 HR.out.2
    · rfl
    · rfl
  case stop =>
    rintro c0 pre G V hSp ⟨rfl, ⟨hi, hlt⟩, hy2⟩ hsz hK
    have HTK : Hid ((full T xs ys rs []).take m = pre.map EV.pl) := by
      show _ = _
      obtain ⟨t, ht⟩ := hSp
      rw [← ht, List.take_append_of_le_length (by rw [List.length_map]; omega), List.take_of_length_le (by rw [List.length_map]; omega)]
    clear hSp hlt
    obtain ⟨ee, hee⟩ : ∃ e, wkE d pre = e := ⟨_, rfl⟩
    have KW : Hid (Blk V x5.heap.size 66 #[.slice ee.A1 ee.xs.length ee.c1, .slice ee.A2 ee.ys.length ee.c2, .slice ee.A3 ee.rs.length ee.c3, .int .i64 T, .int .i64 ee.f, .int .u64 (wrd 0 ee.mv), .int .u64 (wrd 1 ee.mv), .int .u64 (wrd 2 ee.mv), .int .u64 (wrd 3 ee.mv)]) := by rw [← hee]; exact hi.wk
    have ME : Hid (InMem V ee.A1 ee.A2 ee.A3 ee.xs ee.ys ee.rs) := by rw [← hee]; exact hi.mem
    have MC : Hid (lruChk ee.xs ee.ys ee.rs = 0) := by show _ = _; rw [← hee]; exact hi.chk
    have MN : Hid (NeZ (fun k => k < w.heap.size) ee.A1 ee.A2 ee.A3 ee.xs ee.ys ee.rs) := by rw [← hee]; exact hi.ne
    have HB := Lib.hid hi.bel
    have MH : Hid (∀ k, HL ee.A1 ee.A2 ee.A3 ee.xs ee.ys ee.rs k → k ≠ w.heap.size + 1 + 1) := by
      show ∀ k, _
      intro k hk e
      have hk' : (wkE d pre).hd k := by rw [hee]; exact hk
      rcases wkE_hd hk' with h | h
      · rw [HDD.out] at h
        have := HND.out.hd_lo h
        omega
      · have := hi.hd k h; omega
    obtain ⟨A, c, kb, ho, hg⟩ := hi.vb
    obtain ⟨vs, hvs⟩ : ∃ l, vicP (pre.map EV.pl) = l := ⟨_, rfl⟩
    rw [hvs] at kb ho
    have HR : Hid (runE T xs ys rs m = ee.pl ∧ vicP ((full T xs ys rs []).take m) = vs) := by
      refine ⟨?_, by rw [HTK.out, hvs]⟩
      unfold runE
      rw [HTK.out, ← hee]
      exact wkE_pl HDD.out pre
    have HV := Lib.hid kb; have HO := Lib.hid ho; have HK := Lib.hid hK; have HY := Lib.hid hy2
    have HSX' := HSX; have HSW' := HSW
    have s0 : V.cell? ⟨x5.heap.size, 0, none⟩ = some (.slice ee.A1 ee.xs.length ee.c1) := (KW.out.cell_ 0).trans (by simp)
    have s1 : V.cell? ⟨x5.heap.size, 1, none⟩ = some (.slice ee.A2 ee.ys.length ee.c2) := (KW.out.cell_ 1).trans (by simp)
    have s2 : V.cell? ⟨x5.heap.size, 2, none⟩ = some (.slice ee.A3 ee.rs.length ee.c3) := (KW.out.cell_ 2).trans (by simp)
    have s3 : V.cell? ⟨x5.heap.size, 3, none⟩ = some (.int .i64 T) := (KW.out.cell_ 3).trans (by simp)
    have s4 : V.cell? ⟨x5.heap.size, 4, none⟩ = some (.int .i64 ee.f) := (KW.out.cell_ 4).trans (by simp)
    have s5 : V.cell? ⟨x5.heap.size, 5, none⟩ = some (.int .u64 (wrd 0 ee.mv)) := (KW.out.cell_ 5).trans (by simp)
    have s6 : V.cell? ⟨x5.heap.size, 6, none⟩ = some (.int .u64 (wrd 1 ee.mv)) := (KW.out.cell_ 6).trans (by simp)
    have s7 : V.cell? ⟨x5.heap.size, 7, none⟩ = some (.int .u64 (wrd 2 ee.mv)) := (KW.out.cell_ 7).trans (by simp)
    have s8 : V.cell? ⟨x5.heap.size, 8, none⟩ = some (.int .u64 (wrd 3 ee.mv)) := (KW.out.cell_ 8).trans (by simp)
    have v0 : V.cell? ⟨x5.heap.size + 1, 0, none⟩ = some (.slice A vs.length c) := (kb.cell_ 0).trans (by simp)
    have y0 : V.cell? ⟨w.heap.size + 1 + 1, 0, none⟩ = some (.slice none 0 0) := (HY.out.cell_ 0).trans (by simp)
    have y1 : V.cell? ⟨w.heap.size + 1 + 1, 1, none⟩ = some (.slice none 0 0) := (HY.out.cell_ 1).trans (by simp)
    have y2 : V.cell? ⟨w.heap.size + 1 + 1, 2, none⟩ = some (.slice none 0 0) := (HY.out.cell_ 2).trans (by simp)
    have y3 : V.cell? ⟨w.heap.size + 1 + 1, 3, none⟩ = some (.int .i64 0) := (HY.out.cell_ 3).trans (by simp)
    have y4 : V.cell? ⟨w.heap.size + 1 + 1, 4, none⟩ = some (.int .i64 0) := (HY.out.cell_ 4).trans (by simp)
    have y5 : V.cell? ⟨w.heap.size + 1 + 1, 5, none⟩ = some (.int .u64 0) := (HY.out.cell_ 5).trans (by simp)
    have y6 : V.cell? ⟨w.heap.size + 1 + 1, 6, none⟩ = some (.int .u64 0) := (HY.out.cell_ 6).trans (by simp)
    have y7 : V.cell? ⟨w.heap.size + 1 + 1, 7, none⟩ = some (.int .u64 0) := (HY.out.cell_ 7).trans (by simp)
    have y8 : V.cell? ⟨w.heap.size + 1 + 1, 8, none⟩ = some (.int .u64 0) := (HY.out.cell_ 8).trans (by simp)
    have g0 := HY.out.frozen_ 0
    have g1 := HY.out.frozen_ 1
    have g2 := HY.out.frozen_ 2
    have g3 := HY.out.frozen_ 3
    have g4 := HY.out.frozen_ 4
    have g5 := HY.out.frozen_ 5
    have g6 := HY.out.frozen_ 6
    have g7 := HY.out.frozen_ 7
    have g8 := HY.out.frozen_ 8
    have nfw : x5.heap.size ≠ w.heap.size + 1 + 1 := by omega
    have nfv : x5.heap.size + 1 ≠ w.heap.size + 1 + 1 := by omega
    have HDL : Hid (w.heap.size + 3 ≤ W.heap.size ∧ W.heap.size ≠ w.heap.size + 1 + 1) := ⟨by omega, by omega⟩
    clear hi hee kb ho hg hvs hK hy2 sX sW
    gi_wp2
    refine wpIn_quiet (wpIn_region_held_drew (.inl rfl) (by omega) (by kernel_rfl) (by rintro ⟨_, _, hh⟩; exact hh) (S := (fun U => U.cell? ⟨x5.heap.size, 0, none⟩ = some (.slice ee.A1 ee.xs.length ee.c1) ∧ U.cell? ⟨x5.heap.size, 1, none⟩ = some (.slice ee.A2 ee.ys.length ee.c2) ∧ U.cell? ⟨x5.heap.size, 2, none⟩ = some (.slice ee.A3 ee.rs.length ee.c3) ∧ U.cell? ⟨x5.heap.size, 3, none⟩ = some (.int .i64 T) ∧ U.cell? ⟨x5.heap.size, 4, none⟩ = some (.int .i64 ee.f) ∧ U.cell? ⟨x5.heap.size, 5, none⟩ = some (.int .u64 (wrd 0 ee.mv)) ∧ U.cell? ⟨x5.heap.size, 6, none⟩ = some (.int .u64 (wrd 1 ee.mv)) ∧ U.cell? ⟨x5.heap.size, 7, none⟩ = some (.int .u64 (wrd 2 ee.mv)) ∧ U.cell? ⟨x5.heap.size, 8, none⟩ = some (.int .u64 (wrd 3 ee.mv)) ∧ U.cell? ⟨x5.heap.size + 1, 0, none⟩ = some (.slice A vs.length c))) (by kernel_rfl) ?_ (fun hHeld => ?_))
    · (exact ⟨s0, s1, s2, s3, s4, s5, s6, s7, s8, v0⟩)
    refine wpAnyH_take (i := 0) (oi := ?oid0) (v := ?vd0) ?hid0 (by kernel_rfl) (by kernel_rfl) (by kernel_rfl) ?hQd0 ?hyd0 (by assumption) ?restd0
    case hid0 => (simp only [List.getElem?_toArray, List.getElem?_cons_succ, List.getElem?_cons_zero]; rfl)
    case hQd0 => exact fun _ _ _ h => h
    case hyd0 => (refine Or.inl ⟨by rfl, ?_⟩; intro w hSw; (try dsimp only at hSw); go_simp; first | done | with_reducible rfl)
    (try simp only [Act.put, List.setIfInBounds_toArray, List.set_cons_zero, List.set_cons_succ])
    refine wpAnyH_take (i := 1) (oi := ?oid1) (v := ?vd1) ?hid1 (by kernel_rfl) (by kernel_rfl) (by kernel_rfl) ?hQd1 ?hyd1 (by assumption) ?restd1
    case hid1 => (simp only [List.getElem?_toArray, List.getElem?_cons_succ, List.getElem?_cons_zero]; rfl)
    case hQd1 => exact fun _ _ _ h => h
    case hyd1 => (refine Or.inl ⟨by rfl, ?_⟩; intro w hSw; (try dsimp only at hSw); go_simp; first | done | with_reducible rfl)
    (try simp only [Act.put, List.setIfInBounds_toArray, List.set_cons_zero, List.set_cons_succ])
    refine wpAnyH_ready (rs := [2]) (by kernel_rfl) (by simp) ?_
    refine AllReadyH.cons (o := ?oid2) ?hid2 (fun K hK => ?stepd2) AllReadyH.nil
    case hid2 => (simp only [List.getElem?_toArray, List.getElem?_cons_succ, List.getElem?_cons_zero]; rfl)
    go_simp
    refine hK.out _ _ ?_ (fun hHeld => ?_)
    · (refine ⟨?_, ?_, ?_, ?_, ?_, ?_, ?_, ?_, ?_, ?_⟩ <;> first | exact far9d_ (by assumption) nfw | exact far9d_ (by assumption) nfv)
    clear hK K
    (try simp only [Act.put, List.setIfInBounds_toArray, List.set_cons_zero, List.set_cons_succ])
    refine wpAnyH_take (i := 3) (oi := ?oid3) (v := ?vd3) ?hid3 (by kernel_rfl) (by kernel_rfl) (by kernel_rfl) ?hQd3 ?hyd3 (by assumption) ?restd3
    case hid3 => (simp only [List.getElem?_toArray, List.getElem?_cons_succ, List.getElem?_cons_zero]; rfl)
    case hQd3 => exact fun _ _ _ h => h
    case hyd3 => (refine Or.inl ⟨by rfl, ?_⟩; intro w hSw; (try dsimp only at hSw); go_simp; first | done | with_reducible rfl)
    (try simp only [Act.put, List.setIfInBounds_toArray, List.set_cons_zero, List.set_cons_succ])
    refine wpAnyH_done (by kernel_rfl) ?_ _
    obtain ⟨U, hU⟩ : ∃ U, (((((((((V.setCell ⟨w.heap.size + 1 + 1, 0, none⟩ (.slice ee.A1 ee.xs.length ee.c1)).setCell ⟨w.heap.size + 1 + 1, 1, none⟩ (.slice ee.A2 ee.ys.length ee.c2)).setCell ⟨w.heap.size + 1 + 1, 2, none⟩ (.slice ee.A3 ee.rs.length ee.c3)).setCell ⟨w.heap.size + 1 + 1, 3, none⟩ (.int .i64 T)).setCell ⟨w.heap.size + 1 + 1, 4, none⟩ (.int .i64 ee.f)).setCell ⟨w.heap.size + 1 + 1, 5, none⟩ (.int .u64 (wrd 0 ee.mv))).setCell ⟨w.heap.size + 1 + 1, 6, none⟩ (.int .u64 (wrd 1 ee.mv))).setCell ⟨w.heap.size + 1 + 1, 7, none⟩ (.int .u64 (wrd 2 ee.mv))).setCell ⟨w.heap.size + 1 + 1, 8, none⟩ (.int .u64 (wrd 3 ee.mv))).drew = U := ⟨_, rfl⟩
    have AU : Aside (fun k => k = w.heap.size + 1 + 1) V U := by rw [← hU]; exact (((((((((((Aside.refl (fun k => k = w.heap.size + 1 + 1) V).setCell (p := ⟨w.heap.size + 1 + 1, 0, none⟩) (.inr rfl) _).setCell (p := ⟨w.heap.size + 1 + 1, 1, none⟩) (.inr rfl) _).setCell (p := ⟨w.heap.size + 1 + 1, 2, none⟩) (.inr rfl) _).setCell (p := ⟨w.heap.size + 1 + 1, 3, none⟩) (.inr rfl) _).setCell (p := ⟨w.heap.size + 1 + 1, 4, none⟩) (.inr rfl) _).setCell (p := ⟨w.heap.size + 1 + 1, 5, none⟩) (.inr rfl) _).setCell (p := ⟨w.heap.size + 1 + 1, 6, none⟩) (.inr rfl) _).setCell (p := ⟨w.heap.size + 1 + 1, 7, none⟩) (.inr rfl) _).setCell (p := ⟨w.heap.size + 1 + 1, 8, none⟩) (.inr rfl) _)).trans (Aside.of_below (Below.refl _ _).drew)
    have KU : Blk U (w.heap.size + 1 + 1) 66 #[.slice ee.A1 ee.xs.length ee.c1, .slice ee.A2 ee.ys.length ee.c2, .slice ee.A3 ee.rs.length ee.c3, .int .i64 T, .int .i64 ee.f, .int .u64 (wrd 0 ee.mv), .int .u64 (wrd 1 ee.mv), .int .u64 (wrd 2 ee.mv), .int .u64 (wrd 3 ee.mv)] := by
      rw [← hU]
      exact Blk.drew_ (by simpa using (((((((((HY.out.set_ 0 (.slice ee.A1 ee.xs.length ee.c1)).set_ 1 (.slice ee.A2 ee.ys.length ee.c2)).set_ 2 (.slice ee.A3 ee.rs.length ee.c3)).set_ 3 (.int .i64 T)).set_ 4 (.int .i64 ee.f)).set_ 5 (.int .u64 (wrd 0 ee.mv))).set_ 6 (.int .u64 (wrd 1 ee.mv))).set_ 7 (.int .u64 (wrd 2 ee.mv))).set_ 8 (.int .u64 (wrd 3 ee.mv))))
    have OU := HO.out.aside AU fun g e hh => by have h1 := (HO.out.block g e).1; omega
    have MU := ME.out.aside AU (NeZ.of_hd _ fun k hk => MH.out k hk)
    have BU := HB.out.trans (AU.below (B := w.heap.size) (by have := HB.out.size; omega) fun k hk e => by omega)
    have KD : U.heap[W.heap.size]? = some (.deferred (some [])) := (AU.block W.heap.size (by have := (Array.getElem?_eq_some_iff.1 HK.out).1; omega) (fun e => HDL.out.2 e)).trans HK.out
    (try rw [hU])
    simp only [Quiet]
    gi_wp2
    show LeavesInM _ _ _ _ _ _ _ _ _
    refine run_end (R := runE T xs ys rs m) (vs' := vicP ((full T xs ys rs []).take m)) KU MU MN.out MC.out OU BU HDL.out.1 KD ?_ ?_ HR.out.1 HR.out.2
    · rfl
    · rfl

theorem run_any (A1 A2 A3 : Option Addr) (c1 c2 c3 : Nat) (xs ys : List Int) (rs : List Bool) (T : Int) (m : Nat) (w : World) (h : InMem w A1 A2 A3 xs ys rs) (hc : lruChk xs ys rs = 0) (hm9 : m ≤ 1000) :
    Calls Try.prog 51 #[.agg #[.slice A1 xs.length c1, .slice A2 ys.length c2, .slice A3 rs.length c3], .int .i64 T, .int .i64 m] w (RunQ T (runE T xs ys rs m) (vicP ((full T xs ys rs []).take m)) w) := by
  by_cases h0 : m = 0
  · exact run_zero A1 A2 A3 c1 c2 c3 xs ys rs T m w h hc h0
  · exact callsIn_wide.1 (run_fence 6 (Nat.le_refl _) A1 A2 A3 c1 c2 c3 xs ys rs T m w h hc (by omega) hm9)
end Go.Proofs.Ytiobbdfkimpfbaa
