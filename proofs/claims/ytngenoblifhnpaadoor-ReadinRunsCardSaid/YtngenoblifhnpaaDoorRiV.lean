/- readin.Run, by a range over a function. -/
import Derived.Test.YtngenoblifhnpaaDoorRiU
namespace Go.Proofs.YtngenoblifhnpaaDoor
open Go.RowKit Go.Maps
open Go.Shelf
attribute [local go_sem] Oper.semAt_some

/-- The last access of those handed over, or the first one. -/
def lastU (r : RI) (pre : List (RI × Int)) : RI := (pre.map (·.1)).getLast?.getD r
theorem lastU_snoc (r : RI) (pre : List (RI × Int)) (x : RI × Int) : lastU r (pre ++ [x]) = x.1 := by simp [lastU]
theorem runU_of : ∀ (l : List (Int × Int)) (r : RI), (∀ x ∈ seqU r l, x.2 = 0) → runU r l = (lastU r (seqU r l), ((seqU r l).length : Int), 0)
  | [], r, _ => by simp [runU, seqU, lastU]
  | c :: t, r, h => by
    have hz : (stpR r c.2 c.1).2.2.2 = 0 := h _ (by unfold seqU; exact List.mem_cons_self)
    have e : seqU r (c :: t) = ((stpR r c.2 c.1).1, (stpR r c.2 c.1).2.2.2) :: seqU (stpR r c.2 c.1).1 t := by simp only [seqU, hz, if_true]
    have ih := runU_of t (stpR r c.2 c.1).1 (fun x hx => h x (by rw [e]; exact List.mem_cons_of_mem _ hx))
    unfold runU
    rw [if_pos hz, ih, e]
    simp [lastU, List.getLast?_cons]
theorem runU_bad : ∀ (l : List (Int × Int)) (r : RI) (pre : List (RI × Int)) (t : RI) (e : Int), pre ++ [(t, e)] <+: seqU r l → (∀ x ∈ pre, x.2 = 0) → e ≠ 0 → runU r l = (lastU r pre, (pre.length : Int), e)
  | [], r, pre, t, e, h, _, _ => by simp [seqU] at h
  | c :: u, r, [], t, e, h, _, he => by
    unfold seqU at h
    rw [List.nil_append, List.cons_prefix_cons] at h
    obtain ⟨h1, _⟩ := h
    have hz : (stpR r c.2 c.1).2.2.2 = e := (Prod.mk.inj h1).2.symm
    unfold runU
    rw [if_neg (by rw [hz]; exact he), hz]
    simp [lastU]
  | c :: u, r, x :: pre, t, e, h, hp, he => by
    unfold seqU at h
    rw [List.cons_append, List.cons_prefix_cons] at h
    obtain ⟨rfl, h2⟩ := h
    have hz : (stpR r c.2 c.1).2.2.2 = 0 := hp _ List.mem_cons_self
    rw [if_pos hz] at h2
    have ih := runU_bad u _ pre t e h2 (fun y hy => hp y (List.mem_cons_of_mem _ hy)) he
    unfold runU
    rw [if_pos hz, ih]
    simp [lastU, List.getLast?_cons]

/-- What Run hands back. -/
def RunPost (R : RI × Int × Int) (w : World) (e : Ending) (w' : World) : Prop := e = .returned (.tuple #[.agg #[.int .i64 R.1.1, .int .i64 R.1.2.1, .int .i64 R.1.2.2], .int .i64 R.2.1, .int .i64 R.2.2]) ∧ Below w.heap.size w w'

set_option maxRecDepth 100000 in
set_option maxHeartbeats 4000000 in
theorem Run_bad (s f g : Int) (A : Option Addr) (c m : Nat) (l : List (Int × Int)) (w : World) (h0 : chkR (s, f, g) ≠ 0) :
    Calls Tryd.prog 20 #[.agg #[.int .i64 s, .int .i64 f, .int .i64 g], .slice A m c] w (RunPost (runR (s, f, g) l) w) := by
  obtain ⟨z, hz⟩ : ∃ z, chkR (s, f, g) = z := ⟨_, rfl⟩
  have HE : Hid (runR (s, f, g) l = ((0, 0, 0), 0, z)) := by show _ = _; unfold runR; rw [if_neg h0, hz]
  have nz : (z != 0) = true := by rw [hz] at h0; simpa using h0
  have HC := Lib.hid hz
  clear hz h0
  go_enter Tryd.func20, Tryd.ntmps20
  go_wp2_with fail
  refine (Check_any s f g _ HC.out).mono ?_
  rintro er w1 ⟨rfl, hb1⟩
  have sz1 : w.heap.size + 4 ≤ w1.heap.size := by have := hb1.size; simp at this; omega
  have k4 : Blk w1 (w.heap.size + 1) 23 #[.int .i64 0, .int .i64 0, .int .i64 0] := Blk.below_ (((Blk.new_ (by simp) rfl).alloc_ _).alloc_ _) hb1 (by first | (simp; done) | (simp; omega))
  have k5 : Blk w1 (w.heap.size + 1 + 1) 3 #[.int .i64 0] := Blk.below_ ((Blk.new_ (by simp) rfl).alloc_ _) hb1 (by first | (simp; done) | (simp; omega))
  have k6 : Blk w1 (w.heap.size + 1 + 1 + 1) 24 #[.int .i64 0] := Blk.below_ (Blk.new_ (by simp) rfl) hb1 (by first | (simp; done) | (simp; omega))
  have HB1 : Hid (Below w.heap.size w w1) := by show Below _ _ _; exact ((((Below.refl _ w).alloc (Nat.le_refl _) _).alloc (by simp) _).alloc (by simp; omega) _).alloc (by simp; omega) _ |>.trans (hb1.mono (by simp; omega))
  have p0 : w1.cell? ⟨w.heap.size + 1, 0, none⟩ = some (.int .i64 0) := (k4.cell_ 0).trans (by simp)
  have p1 : w1.cell? ⟨w.heap.size + 1, 1, none⟩ = some (.int .i64 0) := (k4.cell_ 1).trans (by simp)
  have p2 : w1.cell? ⟨w.heap.size + 1, 2, none⟩ = some (.int .i64 0) := (k4.cell_ 2).trans (by simp)
  have p3 : w1.cell? ⟨w.heap.size + 1 + 1, 0, none⟩ = some (.int .i64 0) := (k5.cell_ 0).trans (by simp)
  have p4 : w1.cell? ⟨w.heap.size + 1 + 1 + 1, 0, none⟩ = some (.int .i64 0) := (k6.cell_ 0).trans (by simp)
  have g0 := k4.frozen_ 0
  have g1 := k4.frozen_ 1
  have g2 := k4.frozen_ 2
  have g3 := k5.frozen_ 0
  have g4 := k6.frozen_ 0
  clear hb1 k4 k5 k6
  go_wp2_with fail
  refine bodyPost_ret (v := .tuple #[.agg #[.int .i64 0, .int .i64 0, .int .i64 0], .int .i64 0, .int .i64 z]) (by simp [results, Tryd.results20, go_sem, p0, p1, p2, p3, p4]) rfl ?_
  unfold RunPost
  rw [HE.out]
  refine ⟨rfl, ?_⟩
  exact ((((HB1.out.setCell (p := ⟨w.heap.size + 1, 0, none⟩) (show w.heap.size ≤ w.heap.size + 1 by omega) _).setCell (p := ⟨w.heap.size + 1, 1, none⟩) (show w.heap.size ≤ w.heap.size + 1 by omega) _).setCell (p := ⟨w.heap.size + 1, 2, none⟩) (show w.heap.size ≤ w.heap.size + 1 by omega) _).setCell (p := ⟨w.heap.size + 1 + 1, 0, none⟩) (show w.heap.size ≤ w.heap.size + 1 + 1 by omega) _).setCell (p := ⟨w.heap.size + 1 + 1 + 1, 0, none⟩) (show w.heap.size ≤ w.heap.size + 1 + 1 + 1 by omega) _

/-- What lies in the variables of Run. -/
def RunV (B : Nat) (r : RI) (n z : Int) (W : World) : Prop := Blk W (B + 1) 23 #[.int .i64 r.1, .int .i64 r.2.1, .int .i64 r.2.2] ∧ Blk W (B + 1 + 1) 3 #[.int .i64 n] ∧ Blk W (B + 1 + 1 + 1) 24 #[.int .i64 z]
theorem RunV.aside {B : Nat} {r : RI} {n z : Int} {W W' : World} {Z : Nat → Prop} (h : RunV B r n z W) (ha : Aside Z W W') (h1 : ¬ Z (B + 1)) (h2 : ¬ Z (B + 1 + 1)) (h3 : ¬ Z (B + 1 + 1 + 1)) : RunV B r n z W' := ⟨ha.blk h.1 h1, ha.blk h.2.1 h2, ha.blk h.2.2 h3⟩

theorem run_put0 {B : Nat} {V : World} {a b c n z0 : Int} (h : RunV B (a, b, c) n z0 V) (z : Int) (U : World)
    (hU : ((((V.setCell ⟨B + 1, 0, none⟩ (.int .i64 a)).setCell ⟨B + 1, 1, none⟩ (.int .i64 b)).setCell ⟨B + 1, 2, none⟩ (.int .i64 c)).setCell ⟨B + 1 + 1, 0, none⟩ (.int .i64 n)).setCell ⟨B + 1 + 1 + 1, 0, none⟩ (.int .i64 z) = U) :
    RunV B (a, b, c) n z U ∧ (∀ k, B + 4 ≤ k → U.heap[k]? = V.heap[k]?) ∧ ∀ w, Below B w V → Below B w U := by
  subst hU
  refine ⟨⟨?_, ?_, ?_⟩, fun k hk => ?_, fun w hw => ?_⟩
  · refine Blk.far_ (p := ⟨B + 1 + 1 + 1, 0, none⟩) (Blk.far_ (p := ⟨B + 1 + 1, 0, none⟩) ?_ (by show B + 1 ≠ B + 1 + 1; omega) _) (by show B + 1 ≠ B + 1 + 1 + 1; omega) _
    simpa using ((h.1.set_ 0 (.int .i64 a)).set_ 1 (.int .i64 b)).set_ 2 (.int .i64 c)
  · refine Blk.far_ (p := ⟨B + 1 + 1 + 1, 0, none⟩) ?_ (by show B + 1 + 1 ≠ B + 1 + 1 + 1; omega) _
    have := (((h.2.1.far_ (p := ⟨B + 1, 0, none⟩) (by show B + 1 + 1 ≠ B + 1; omega) (.int .i64 a)).far_ (p := ⟨B + 1, 1, none⟩) (by show B + 1 + 1 ≠ B + 1; omega) (.int .i64 b)).far_ (p := ⟨B + 1, 2, none⟩) (by show B + 1 + 1 ≠ B + 1; omega) (.int .i64 c)).set_ 0 (.int .i64 n)
    simpa using this
  · have := ((((h.2.2.far_ (p := ⟨B + 1, 0, none⟩) (by show B + 1 + 1 + 1 ≠ B + 1; omega) (.int .i64 a)).far_ (p := ⟨B + 1, 1, none⟩) (by show B + 1 + 1 + 1 ≠ B + 1; omega) (.int .i64 b)).far_ (p := ⟨B + 1, 2, none⟩) (by show B + 1 + 1 + 1 ≠ B + 1; omega) (.int .i64 c)).far_ (p := ⟨B + 1 + 1, 0, none⟩) (by show B + 1 + 1 + 1 ≠ B + 1 + 1; omega) (.int .i64 n)).set_ 0 (.int .i64 z)
    simpa using this
  · rw [Below.heap_setCell _ _ _ _ (by show k ≠ B + 1 + 1 + 1; omega), Below.heap_setCell _ _ _ _ (by show k ≠ B + 1 + 1; omega), Below.heap_setCell _ _ _ _ (by show k ≠ B + 1; omega), Below.heap_setCell _ _ _ _ (by show k ≠ B + 1; omega), Below.heap_setCell _ _ _ _ (by show k ≠ B + 1; omega)]
  · exact ((((hw.setCell (p := ⟨B + 1, 0, none⟩) (show B ≤ B + 1 by omega) _).setCell (p := ⟨B + 1, 1, none⟩) (show B ≤ B + 1 by omega) _).setCell (p := ⟨B + 1, 2, none⟩) (show B ≤ B + 1 by omega) _).setCell (p := ⟨B + 1 + 1, 0, none⟩) (show B ≤ B + 1 + 1 by omega) _).setCell (p := ⟨B + 1 + 1 + 1, 0, none⟩) (show B ≤ B + 1 + 1 + 1 by omega) _
/-- The variables stored anew, at a return. -/
theorem run_put {B : Nat} {V : World} {a b c n z0 : Int} (h : RunV B (a, b, c) n z0 V) (z : Int) (U : World)
    (hU : (((((V.setCell ⟨B + 1, 0, none⟩ (.int .i64 a)).setCell ⟨B + 1, 1, none⟩ (.int .i64 b)).setCell ⟨B + 1, 2, none⟩ (.int .i64 c)).setCell ⟨B + 1 + 1, 0, none⟩ (.int .i64 n)).setCell ⟨B + 1 + 1 + 1, 0, none⟩ (.int .i64 z)).drew = U) :
    RunV B (a, b, c) n z U ∧ KeepsOthers V U ∧ V.heap.size ≤ U.heap.size ∧ (∀ w, Below B w V → Below B w U) ∧ ∀ k, B + 4 ≤ k → U.heap[k]? = V.heap[k]? := by
  subst hU
  refine ⟨⟨Blk.drew_ ?_, Blk.drew_ ?_, Blk.drew_ ?_⟩, ?_, by simp [World.setCell, World.drew], fun w hw => ?_, fun k hk => ?_⟩
  · refine Blk.far_ (p := ⟨B + 1 + 1 + 1, 0, none⟩) (Blk.far_ (p := ⟨B + 1 + 1, 0, none⟩) ?_ (by show B + 1 ≠ B + 1 + 1; omega) _) (by show B + 1 ≠ B + 1 + 1 + 1; omega) _
    simpa using ((h.1.set_ 0 (.int .i64 a)).set_ 1 (.int .i64 b)).set_ 2 (.int .i64 c)
  · refine Blk.far_ (p := ⟨B + 1 + 1 + 1, 0, none⟩) ?_ (by show B + 1 + 1 ≠ B + 1 + 1 + 1; omega) _
    have := (((h.2.1.far_ (p := ⟨B + 1, 0, none⟩) (by show B + 1 + 1 ≠ B + 1; omega) (.int .i64 a)).far_ (p := ⟨B + 1, 1, none⟩) (by show B + 1 + 1 ≠ B + 1; omega) (.int .i64 b)).far_ (p := ⟨B + 1, 2, none⟩) (by show B + 1 + 1 ≠ B + 1; omega) (.int .i64 c)).set_ 0 (.int .i64 n)
    simpa using this
  · have := ((((h.2.2.far_ (p := ⟨B + 1, 0, none⟩) (by show B + 1 + 1 + 1 ≠ B + 1; omega) (.int .i64 a)).far_ (p := ⟨B + 1, 1, none⟩) (by show B + 1 + 1 + 1 ≠ B + 1; omega) (.int .i64 b)).far_ (p := ⟨B + 1, 2, none⟩) (by show B + 1 + 1 + 1 ≠ B + 1; omega) (.int .i64 c)).far_ (p := ⟨B + 1 + 1, 0, none⟩) (by show B + 1 + 1 + 1 ≠ B + 1 + 1; omega) (.int .i64 n)).set_ 0 (.int .i64 z)
    simpa using this
  · exact (((((KeepsOthers.setCell V _ _).trans (KeepsOthers.setCell _ _ _)).trans (KeepsOthers.setCell _ _ _)).trans (KeepsOthers.setCell _ _ _)).trans (KeepsOthers.setCell _ _ _)).trans (KeepsOthers.drew _)
  · exact (((((hw.setCell (p := ⟨B + 1, 0, none⟩) (show B ≤ B + 1 by omega) _).setCell (p := ⟨B + 1, 1, none⟩) (show B ≤ B + 1 by omega) _).setCell (p := ⟨B + 1, 2, none⟩) (show B ≤ B + 1 by omega) _).setCell (p := ⟨B + 1 + 1, 0, none⟩) (show B ≤ B + 1 + 1 by omega) _).setCell (p := ⟨B + 1 + 1 + 1, 0, none⟩) (show B ≤ B + 1 + 1 + 1 by omega) _).drew
  · rw [show ∀ W : World, W.drew.heap = W.heap from fun _ => rfl]
    exact (run_put0 h z _ rfl).2.1 k hk

set_option maxRecDepth 100000 in
/-- Behind the last return. -/
theorem run_end {s0 s1 s2 nn z : Int} {w V : World} {n D : Nat} {R : RI × Int × Int} {ts : Array Value} (hv : RunV w.heap.size (s0, s1, s2) nn z V) (hb : Below w.heap.size w V) (hD : w.heap.size + 4 ≤ D) (hK : V.heap[D]? = some (.deferred (some []))) (hR : R = ((s0, s1, s2), nn, z))
    (h4 : ts[4]? = some (.pointer (some ⟨w.heap.size + 1, 0, none⟩))) (h5 : ts[5]? = some (.pointer (some ⟨w.heap.size + 1 + 1, 0, none⟩))) (h6 : ts[6]? = some (.pointer (some ⟨w.heap.size + 1 + 1 + 1, 0, none⟩))) :
    LeavesInM Fence.wide n Tryd.prog Tryd.f20 ts (RunPost R w) [{ target := .collected D, args := #[] }] .returning V := by
  subst hR
  have kU : RunV w.heap.size (s0, s1, s2) nn z (V.putObj D (.deferred none)) := ⟨(World.putObj_heap_other (by omega)).trans hv.1, (World.putObj_heap_other (by omega)).trans hv.2.1, (World.putObj_heap_other (by omega)).trans hv.2.2⟩
  have bU : Below w.heap.size w (V.putObj D (.deferred none)) := hb.trans (belowK_b (w := w) (Nat.le_refl _) V D _ _ (by omega) hK rfl rfl)
  have p0 := kU.1.cell_ 0
  have p1 := kU.1.cell_ 1
  have p2 := kU.1.cell_ 2
  have p3 := kU.2.1.cell_ 0
  have p4 := kU.2.2.cell_ 0
  simp at p0 p1 p2 p3 p4
  refine ⟨by simp, .inl ⟨_, _, rfl, run_takeDeferred hK, ?_⟩⟩
  refine ⟨.tuple #[.agg #[.int .i64 s0, .int .i64 s1, .int .i64 s2], .int .i64 nn, .int .i64 z], ?_, rfl, bU⟩
  simp [results, Tryd.results20, go_sem, h4, h5, h6, p0, p1, p2, p3, p4]

set_option maxRecDepth 100000 in
set_option maxHeartbeats 4000000 in
theorem Run_in (n : Nat) (hn : 6 ≤ n) (s f g : Int) (A : Option Addr) (c : Nat) (l : List (Int × Int)) (w : World) (hs : SR chgE w A l) (ll : l.length ≤ 20) (hal : AL w) (h0 : chkR (s, f, g) = 0) :
    CallsIn Fence.wide n Tryd.prog 20 #[.agg #[.int .i64 s, .int .i64 f, .int .i64 g], .slice A l.length c] w (RunPost (runR (s, f, g) l) w) := by
  have HS := Lib.hid hs; have HAL := Lib.hid hal; have HC := Lib.hid h0
  have HE : Hid (runR (s, f, g) l = runU (s, f, g) l) := by show _ = _; unfold runR; rw [if_pos h0]
  clear hs hal h0
  have h1 : 1 ≤ n := by omega
  refine callsIn_of_wp_marks Tryd.func20 rfl trivial ?_ rfl
  simp only [Tryd.ntmps20, List.size_toArray, List.length_cons, List.length_nil, Nat.reduceAdd, Nat.reduceSub, Array.replicate_succ, Array.replicate_zero, List.push_toArray, List.append_toArray, List.nil_append, List.cons_append]
  gi_wp2_with fail
  refine ⟨trivial, (callsIn_wide.2 (Check_any s f g _ HC.out)).mono ?_⟩
  rintro e w1 ⟨rfl, hb1⟩
  have k0 : Blk w1 w.heap.size 23 #[.int .i64 s, .int .i64 f, .int .i64 g] := Blk.below_ ((((Blk.new_ rfl rfl).alloc_ _).alloc_ _).alloc_ _) hb1 (by first | (simp; done) | (simp; omega))
  have sz1 : w.heap.size + 4 ≤ w1.heap.size := by have := hb1.size; simp at this; omega
  have k4 : Blk w1 (w.heap.size + 1) 23 #[.int .i64 0, .int .i64 0, .int .i64 0] := Blk.below_ (((Blk.new_ (by simp) rfl).alloc_ _).alloc_ _) hb1 (by first | (simp; done) | (simp; omega))
  have k5 : Blk w1 (w.heap.size + 1 + 1) 3 #[.int .i64 0] := Blk.below_ ((Blk.new_ (by simp) rfl).alloc_ _) hb1 (by first | (simp; done) | (simp; omega))
  have k6 : Blk w1 (w.heap.size + 1 + 1 + 1) 24 #[.int .i64 0] := Blk.below_ (Blk.new_ (by simp) rfl) hb1 (by first | (simp; done) | (simp; omega))
  have HB1 : Hid (Below w.heap.size w w1) := by show Below _ _ _; exact ((((Below.refl _ w).alloc (Nat.le_refl _) _).alloc (by simp) _).alloc (by simp; omega) _).alloc (by simp; omega) _ |>.trans (hb1.mono (by simp; omega))
  have q0 : w1.cell? ⟨w.heap.size, 0, none⟩ = some (.int .i64 s) := (k0.cell_ 0).trans (by simp)
  have q1 : w1.cell? ⟨w.heap.size, 1, none⟩ = some (.int .i64 f) := (k0.cell_ 1).trans (by simp)
  have q2 : w1.cell? ⟨w.heap.size, 2, none⟩ = some (.int .i64 g) := (k0.cell_ 2).trans (by simp)
  have p0 : w1.cell? ⟨w.heap.size + 1, 0, none⟩ = some (.int .i64 0) := (k4.cell_ 0).trans (by simp)
  have p1 : w1.cell? ⟨w.heap.size + 1, 1, none⟩ = some (.int .i64 0) := (k4.cell_ 1).trans (by simp)
  have p2 : w1.cell? ⟨w.heap.size + 1, 2, none⟩ = some (.int .i64 0) := (k4.cell_ 2).trans (by simp)
  have p3 : w1.cell? ⟨w.heap.size + 1 + 1, 0, none⟩ = some (.int .i64 0) := (k5.cell_ 0).trans (by simp)
  have p4 : w1.cell? ⟨w.heap.size + 1 + 1 + 1, 0, none⟩ = some (.int .i64 0) := (k6.cell_ 0).trans (by simp)
  have g0 := k4.frozen_ 0
  have g1 := k4.frozen_ 1
  have g2 := k4.frozen_ 2
  have g3 := k5.frozen_ 0
  have g4 := k6.frozen_ 0
  have HK := Lib.hid (And.intro k4 (And.intro k5 k6))
  clear hb1 k0 k4 k5 k6
  gi_wp2_with fail
  obtain ⟨X, hX⟩ : ∃ X, ((w1.setCell ⟨w.heap.size + 1, 0, none⟩ (.int .i64 s)).setCell ⟨w.heap.size + 1, 1, none⟩ (.int .i64 f)).setCell ⟨w.heap.size + 1, 2, none⟩ (.int .i64 g) = X := ⟨_, rfl⟩
  have HX : Hid (RunV w.heap.size (s, f, g) 0 0 X ∧ Below w.heap.size w X ∧ w.heap.size + 4 ≤ X.heap.size) := by
    show _ ∧ _ ∧ _
    rw [← hX]
    refine ⟨⟨?_, ?_, ?_⟩, ?_, by simp [World.setCell]; exact sz1⟩
    · simpa using ((HK.out.1.set_ 0 (.int .i64 s)).set_ 1 (.int .i64 f)).set_ 2 (.int .i64 g)
    · exact ((HK.out.2.1.far_ (p := ⟨w.heap.size + 1, 0, none⟩) (by show w.heap.size + 1 + 1 ≠ w.heap.size + 1; omega) _).far_ (p := ⟨w.heap.size + 1, 1, none⟩) (by show w.heap.size + 1 + 1 ≠ w.heap.size + 1; omega) _).far_ (p := ⟨w.heap.size + 1, 2, none⟩) (by show w.heap.size + 1 + 1 ≠ w.heap.size + 1; omega) _
    · exact ((HK.out.2.2.far_ (p := ⟨w.heap.size + 1, 0, none⟩) (by show w.heap.size + 1 + 1 + 1 ≠ w.heap.size + 1; omega) _).far_ (p := ⟨w.heap.size + 1, 1, none⟩) (by show w.heap.size + 1 + 1 + 1 ≠ w.heap.size + 1; omega) _).far_ (p := ⟨w.heap.size + 1, 2, none⟩) (by show w.heap.size + 1 + 1 + 1 ≠ w.heap.size + 1; omega) _
    · exact ((HB1.out.setCell (p := ⟨w.heap.size + 1, 0, none⟩) (show w.heap.size ≤ w.heap.size + 1 by omega) _).setCell (p := ⟨w.heap.size + 1, 1, none⟩) (show w.heap.size ≤ w.heap.size + 1 by omega) _).setCell (p := ⟨w.heap.size + 1, 2, none⟩) (show w.heap.size ≤ w.heap.size + 1 by omega) _
  rw [hX]
  clear hX q0 q1 q2 p0 p1 p2 p3 p4 g0 g1 g2 g3 g4 HK HB1 sz1
  refine ⟨trivial, (callsIn_wide.2 (run_any s f g A c l.length X)).mono ?_⟩
  rintro e W ⟨rfl, hW⟩
  have sX : w.heap.size + 4 ≤ X.heap.size := HX.out.2.2
  have sW : W.heap.size = X.heap.size + 2 := by rw [hW]; simp
  have bW : Below X.heap.size X W := by rw [hW]; exact ((Below.refl _ _).alloc (Nat.le_refl _) _).alloc (by simp) _
  have kr : Blk W X.heap.size 23 #[.int .i64 s, .int .i64 f, .int .i64 g] := by rw [hW]; exact (Blk.new_ rfl rfl).alloc_ _
  have kl : Blk W (X.heap.size + 1) 45 #[.slice A l.length c] := by rw [hW]; exact Blk.new_ (by simp) rfl
  have BW : Below w.heap.size w W := HX.out.2.1.trans (bW.mono (by omega))
  have SW : SR chgE W A l := HS.out.ext BW
  have VW : RunV w.heap.size (s, f, g) 0 0 W := ⟨HX.out.1.1.below_ bW HX.out.1.1.lt, HX.out.1.2.1.below_ bW HX.out.1.2.1.lt, HX.out.1.2.2.below_ bW HX.out.1.2.2.lt⟩
  have AW : AL W := HAL.out.ext BW
  have hA : ∀ q, A.map (·.block) = some q → l ≠ [] → q < w.heap.size := fun q hq hl => by
    obtain ⟨b, off, e, hb, _⟩ := HS.out (SR.len_pos (List.length_pos_iff.2 hl))
    subst e
    simp at hq
    omega
  clear hW
  gi_wp2_with fail
  have nn : ∀ k, k < W.heap.size → k ≠ X.heap.size → ∀ G : Nat → Prop, ¬ ¬ Theirs W.heap.size (fun b => b = X.heap.size) G k := fun k h1 h2 G hn => hn (.inr ⟨h1, h2⟩)
  refine wpIn_rangeG rfl h1 (gf := 49) (lb := #[.pointer (some ⟨X.heap.size + 1, 0, none⟩), .pointer (some ⟨X.heap.size, 0, none⟩)]) rfl trivial (enters_of Tryd.func49 (by kernel_rfl) rfl)
    (run1_in Fence.wide (n - 1) trivial rfl (by omega) rfl X.heap.size (X.heap.size + 1) A c l (s, f, g) (fun b => b = w.heap.size + 1 ∨ b = w.heap.size + 1 + 1 ∨ b = w.heap.size + 1 + 1 + 1) W SW ll AW kr kl (by omega) (by omega) (fun hl q hq => by have := hA q hq hl; omega)
      (fun b hb => by omega) (by omega) (by omega) (by omega) (fun hl q hq => by have := hA q hq hl; omega))
    (fun _ => rfl) (fun b hb => by omega) (fun _ _ _ _ _ _ => trivial)
    (fun pre G V => RunV w.heap.size (lastU (s, f, g) pre) pre.length 0 V ∧ Below w.heap.size w V ∧ ∀ x ∈ pre, x.2 = 0)
    (fun c pre G V => c = .ret ∧ ∃ pre' t e, pre = pre' ++ [(t, e)] ∧ e ≠ 0 ∧ (∀ x ∈ pre', x.2 = 0) ∧ RunV w.heap.size (lastU (s, f, g) pre') pre'.length e V ∧ Below w.heap.size w V)
    (fun pre G V1 V2 ⟨h1, h2, h3⟩ hs ha => ⟨h1.aside ha (nn _ (by omega) (by omega) G) (nn _ (by omega) (by omega) G) (nn _ (by omega) (by omega) G), h2.trans (ha.below (by omega) (fun k hk => nn k (by omega) (by omega) G)), h3⟩)
    (fun c pre G V1 V2 ⟨hc, pre', t, e, h0, h1, h2, h3, h4⟩ hs ha => ⟨hc, pre', t, e, h0, h1, h2, h3.aside ha (nn _ (by omega) (by omega) G) (nn _ (by omega) (by omega) G) (nn _ (by omega) (by omega) G), h4.trans (ha.below (by omega) (fun k hk => nn k (by omega) (by omega) G))⟩)
    (fun _ _ _ _ h _ => h) (fun _ _ _ _ _ h _ => h)
    ⟨VW, BW, fun x hx => by cases hx⟩
    (fun x a' V => ∃ B8, W.heap.size + 2 ≤ B8 ∧ Blk V B8 23 #[.int .i64 x.1.1, .int .i64 x.1.2.1, .int .i64 x.1.2.2] ∧ a' = { tmps := #[.agg #[.int .i64 s, .int .i64 f, .int .i64 g], .slice A l.length c, .pointer (some ⟨w.heap.size, 0, none⟩), undef, .pointer (some ⟨w.heap.size + 1, 0, none⟩), .pointer (some ⟨w.heap.size + 1 + 1, 0, none⟩), .pointer (some ⟨w.heap.size + 1 + 1 + 1, 0, none⟩), .int .i64 0, .pointer (some ⟨B8, 0, none⟩), .int .i64 x.2, .agg #[.int .i64 s, .int .i64 f, .int .i64 g], .int .i64 0, .int .i64 0, .bool false, undef, undef, .agg #[.int .i64 s, .int .i64 f, .int .i64 g], .agg #[.int .i64 s, .int .i64 f, .int .i64 g], .slice A l.length c, .func (.func 49) #[] #[.pointer (some ⟨X.heap.size + 1, 0, none⟩), .pointer (some ⟨X.heap.size, 0, none⟩)], .agg #[.int .i64 x.1.1, .int .i64 x.1.2.1, .int .i64 x.1.2.2], .int .i64 x.2, undef, undef, undef, undef, undef, undef, undef, undef, undef, undef], defers := [] })
    (fun x a' V1 V2 ⟨B8, h1, h2, h3⟩ hs ha => ⟨B8, h1, ha.blk h2 (by omega), h3⟩)
    (fun _ _ _ _ _ => trivial) ?assign ?body ?done ?stop
  case assign =>
    intro lp x V K hV hK
    gi_wp2
    exact hK _ _ ⟨V.heap.size, hV, Blk.new_ rfl rfl, rfl⟩ ((Below.refl _ _).alloc (Nat.le_refl _) _)
  case body =>
    rintro lp pre ⟨⟨t0, t1, t2⟩, z⟩ G V a' ⟨hv, hb, hp⟩ _ ⟨B8, hB8, k8, rfl⟩ hlen hsz hG
    have n1 : (pre.length : Int) ≤ 20 := by omega
    have e0 : V.cell? ⟨B8, 0, none⟩ = some (.int .i64 t0) := (k8.cell_ 0).trans (by simp)
    have e1 : V.cell? ⟨B8, 1, none⟩ = some (.int .i64 t1) := (k8.cell_ 1).trans (by simp)
    have e2 : V.cell? ⟨B8, 2, none⟩ = some (.int .i64 t2) := (k8.cell_ 2).trans (by simp)
    obtain ⟨⟨s0, s1, s2⟩, hls⟩ : ∃ r, lastU (s, f, g) pre = r := ⟨_, rfl⟩
    rw [hls] at hv
    have p0 : V.cell? ⟨w.heap.size + 1, 0, none⟩ = some (.int .i64 s0) := (hv.1.cell_ 0).trans (by simp)
    have p1 : V.cell? ⟨w.heap.size + 1, 1, none⟩ = some (.int .i64 s1) := (hv.1.cell_ 1).trans (by simp)
    have p2 : V.cell? ⟨w.heap.size + 1, 2, none⟩ = some (.int .i64 s2) := (hv.1.cell_ 2).trans (by simp)
    have p3 : V.cell? ⟨w.heap.size + 1 + 1, 0, none⟩ = some (.int .i64 pre.length) := (hv.2.1.cell_ 0).trans (by simp)
    have p4 : V.cell? ⟨w.heap.size + 1 + 1 + 1, 0, none⟩ = some (.int .i64 0) := (hv.2.2.cell_ 0).trans (by simp)
    have g0 := hv.1.frozen_ 0
    have g1 := hv.1.frozen_ 1
    have g2 := hv.1.frozen_ 2
    have g3 := hv.2.1.frozen_ 0
    have g4 := hv.2.2.frozen_ 0
    have HV := Lib.hid hv; have HB := Lib.hid hb; have HP := Lib.hid hp; have HLS := Lib.hid hls
    clear hv hb hp hls k8
    by_cases hz : z = 0
    · subst hz
      gi_wp2
      refine ⟨(((KeepsOthers.setCell V _ _).trans (KeepsOthers.setCell _ _ _)).trans (KeepsOthers.setCell _ _ _)).trans (KeepsOthers.setCell _ _ _) |>.from _, ?_, ⟨?_, ?_, ?_⟩, ?_, ?_⟩
      · exact ((((Aside.refl _ V).setCell (p := ⟨w.heap.size + 1, 0, none⟩) (.inr (.inr (.inl rfl))) _).setCell (p := ⟨w.heap.size + 1, 1, none⟩) (.inr (.inr (.inl rfl))) _).setCell (p := ⟨w.heap.size + 1, 2, none⟩) (.inr (.inr (.inl rfl))) _).setCell (p := ⟨w.heap.size + 1 + 1, 0, none⟩) (.inr (.inr (.inr (.inl rfl)))) _
      · rw [lastU_snoc]
        refine Blk.far_ (p := ⟨w.heap.size + 1 + 1, 0, none⟩) ?_ (by show w.heap.size + 1 ≠ w.heap.size + 1 + 1; omega) _
        simpa using ((HV.out.1.set_ 0 (.int .i64 t0)).set_ 1 (.int .i64 t1)).set_ 2 (.int .i64 t2)
      · have := (((HV.out.2.1.far_ (p := ⟨w.heap.size + 1, 0, none⟩) (by show w.heap.size + 1 + 1 ≠ w.heap.size + 1; omega) (.int .i64 t0)).far_ (p := ⟨w.heap.size + 1, 1, none⟩) (by show w.heap.size + 1 + 1 ≠ w.heap.size + 1; omega) (.int .i64 t1)).far_ (p := ⟨w.heap.size + 1, 2, none⟩) (by show w.heap.size + 1 + 1 ≠ w.heap.size + 1; omega) (.int .i64 t2)).set_ 0 (.int .i64 ((pre.length : Int) + 1))
        simpa using this
      · exact (((HV.out.2.2.far_ (p := ⟨w.heap.size + 1, 0, none⟩) (by show w.heap.size + 1 + 1 + 1 ≠ w.heap.size + 1; omega) _).far_ (p := ⟨w.heap.size + 1, 1, none⟩) (by show w.heap.size + 1 + 1 + 1 ≠ w.heap.size + 1; omega) _).far_ (p := ⟨w.heap.size + 1, 2, none⟩) (by show w.heap.size + 1 + 1 + 1 ≠ w.heap.size + 1; omega) _).far_ (p := ⟨w.heap.size + 1 + 1, 0, none⟩) (by show w.heap.size + 1 + 1 + 1 ≠ w.heap.size + 1 + 1; omega) _
      · exact (((HB.out.setCell (p := ⟨w.heap.size + 1, 0, none⟩) (show w.heap.size ≤ w.heap.size + 1 by omega) _).setCell (p := ⟨w.heap.size + 1, 1, none⟩) (show w.heap.size ≤ w.heap.size + 1 by omega) _).setCell (p := ⟨w.heap.size + 1, 2, none⟩) (show w.heap.size ≤ w.heap.size + 1 by omega) _).setCell (p := ⟨w.heap.size + 1 + 1, 0, none⟩) (show w.heap.size ≤ w.heap.size + 1 + 1 by omega) _
      · intro x hx
        rcases List.mem_append.1 hx with hx | hx
        · exact HP.out x hx
        · simp at hx; rw [hx]
    · have hzb : (z != 0) = true := by simpa using hz
      have HZ := Lib.hid hz
      clear hz
      gi_wp2
      refine wpIn_region_held_drew (.inr ⟨lp, rfl⟩) (by omega) (by kernel_rfl) (by rintro ⟨_, _, hh⟩; exact hh) (S := (fun U => U.cell? ⟨w.heap.size + 1, 0, none⟩ = some (.int .i64 s0) ∧ U.cell? ⟨w.heap.size + 1, 1, none⟩ = some (.int .i64 s1) ∧ U.cell? ⟨w.heap.size + 1, 2, none⟩ = some (.int .i64 s2) ∧ U.cell? ⟨w.heap.size + 1 + 1, 0, none⟩ = some (.int .i64 pre.length))) (by kernel_rfl) ?_ (fun hHeld => ?_)
      · (simp [go_sem, p0, p1, p2, p3])
      refine wpAnyH_take (i := 0) (oi := ?or9n1) (v := ?vr9n1) ?hr9n1 (by kernel_rfl) (by kernel_rfl) (by kernel_rfl) ?qr9n1 ?yr9n1 (by assumption) ?rr9n1
      case hr9n1 => (simp only [List.getElem?_toArray, List.getElem?_cons_succ, List.getElem?_cons_zero]; rfl)
      case qr9n1 => exact fun _ _ _ h => h
      case yr9n1 => (refine Or.inl ⟨by rfl, ?_⟩; intro w hSw; (try dsimp only at hSw); go_simp; first | done | with_reducible rfl)
      (try simp only [Act.put, List.setIfInBounds_toArray, List.set_cons_zero, List.set_cons_succ])
      refine wpAnyH_take (i := 1) (oi := ?or9n2) (v := ?vr9n2) ?hr9n2 (by kernel_rfl) (by kernel_rfl) (by kernel_rfl) ?qr9n2 ?yr9n2 (by assumption) ?rr9n2
      case hr9n2 => (simp only [List.getElem?_toArray, List.getElem?_cons_succ, List.getElem?_cons_zero]; rfl)
      case qr9n2 => exact fun _ _ _ h => h
      case yr9n2 => (refine Or.inl ⟨by rfl, ?_⟩; intro w hSw; (try dsimp only at hSw); go_simp; first | done | with_reducible rfl)
      (try simp only [Act.put, List.setIfInBounds_toArray, List.set_cons_zero, List.set_cons_succ])
      refine wpAnyH_take (i := 2) (oi := ?or9n3) (v := ?vr9n3) ?hr9n3 (by kernel_rfl) (by kernel_rfl) (by kernel_rfl) ?qr9n3 ?yr9n3 (by assumption) ?rr9n3
      case hr9n3 => (simp only [List.getElem?_toArray, List.getElem?_cons_succ, List.getElem?_cons_zero]; rfl)
      case qr9n3 => exact fun _ _ _ h => h
      case yr9n3 => (refine Or.inl ⟨by rfl, ?_⟩; intro w hSw; (try dsimp only at hSw); go_simp; first | done | with_reducible rfl)
      (try simp only [Act.put, List.setIfInBounds_toArray, List.set_cons_zero, List.set_cons_succ])
      refine wpAnyH_ready (rs := [3]) (by kernel_rfl) (by simp) ?_
      refine AllReadyH.cons (o := ?or9n4) ?hr9n4 (fun K hK => ?sr9n4) AllReadyH.nil
      case hr9n4 => (simp only [List.getElem?_toArray, List.getElem?_cons_succ, List.getElem?_cons_zero]; rfl)
      go_simp
      refine hK.out _ _ ?_ (fun hHeld => ?_)
      · (simp [go_sem, p0, p1, p2, p3, p4])
      clear hK K
      (try simp only [Act.put, List.setIfInBounds_toArray, List.set_cons_zero, List.set_cons_succ])
      refine wpAnyH_ready (rs := [4]) (by kernel_rfl) (by simp) ?_
      refine AllReadyH.cons (o := ?or9n5) ?hr9n5 (fun K hK => ?sr9n5) AllReadyH.nil
      case hr9n5 => (simp only [List.getElem?_toArray, List.getElem?_cons_succ, List.getElem?_cons_zero]; rfl)
      go_simp
      refine hK.out _ _ ?_ (fun hHeld => ?_)
      · (simp [go_sem, p0, p1, p2, p3, p4])
      clear hK K
      (try simp only [Act.put, List.setIfInBounds_toArray, List.set_cons_zero, List.set_cons_succ])
      refine wpAnyH_ready (rs := [5]) (by kernel_rfl) (by simp) ?_
      refine AllReadyH.cons (o := ?or9n6) ?hr9n6 (fun K hK => ?sr9n6) AllReadyH.nil
      case hr9n6 => (simp only [List.getElem?_toArray, List.getElem?_cons_succ, List.getElem?_cons_zero]; rfl)
      go_simp
      refine hK.out _ _ ?_ (fun hHeld => ?_)
      · (simp [go_sem, p0, p1, p2, p3, p4])
      clear hK K
      (try simp only [Act.put, List.setIfInBounds_toArray, List.set_cons_zero, List.set_cons_succ])
      refine wpAnyH_done (by kernel_rfl) ?_ _
      obtain ⟨U, hU⟩ : ∃ U, (((((V.setCell ⟨w.heap.size + 1, 0, none⟩ (.int .i64 s0)).setCell ⟨w.heap.size + 1, 1, none⟩ (.int .i64 s1)).setCell ⟨w.heap.size + 1, 2, none⟩ (.int .i64 s2)).setCell ⟨w.heap.size + 1 + 1, 0, none⟩ (.int .i64 pre.length)).setCell ⟨w.heap.size + 1 + 1 + 1, 0, none⟩ (.int .i64 z)).drew = U := ⟨_, rfl⟩
      have HU := Lib.hid (run_put HV.out _ U hU)
      rw [hU]
      clear hU
      gi_wp2
      exact ⟨HU.out.2.1.from _, HU.out.2.2.1, rfl, pre, (t0, t1, t2), z, rfl, HZ.out, HP.out, by rw [HLS.out]; exact HU.out.1, HU.out.2.2.2.1 _ HB.out⟩
  case done =>
    rintro xs G V rfl ⟨hv, hb, hp⟩ hsz hK
    have HSW := Lib.hid sW
    clear sW
    obtain ⟨xs, hxs⟩ : ∃ xs, seqU (s, f, g) l = xs := ⟨_, rfl⟩
    have hlx : xs.length ≤ 20 := by rw [← hxs]; exact Nat.le_trans (seqU_len l _) ll
    have HR : Hid (runU (s, f, g) l = (lastU (s, f, g) xs, (xs.length : Int), 0)) := by show _ = _; rw [← hxs]; exact runU_of l _ (fun x hx => hp x hx)
    rw [hxs] at hv
    obtain ⟨⟨s0, s1, s2⟩, hls⟩ : ∃ r, lastU (s, f, g) xs = r := ⟨_, rfl⟩
    rw [hls] at hv HR
    have p0 : V.cell? ⟨w.heap.size + 1, 0, none⟩ = some (.int .i64 s0) := (hv.1.cell_ 0).trans (by simp)
    have p1 : V.cell? ⟨w.heap.size + 1, 1, none⟩ = some (.int .i64 s1) := (hv.1.cell_ 1).trans (by simp)
    have p2 : V.cell? ⟨w.heap.size + 1, 2, none⟩ = some (.int .i64 s2) := (hv.1.cell_ 2).trans (by simp)
    have p3 : V.cell? ⟨w.heap.size + 1 + 1, 0, none⟩ = some (.int .i64 xs.length) := (hv.2.1.cell_ 0).trans (by simp)
    have p4 : V.cell? ⟨w.heap.size + 1 + 1 + 1, 0, none⟩ = some (.int .i64 0) := (hv.2.2.cell_ 0).trans (by simp)
    have g0 := hv.1.frozen_ 0
    have g1 := hv.1.frozen_ 1
    have g2 := hv.1.frozen_ 2
    have g3 := hv.2.1.frozen_ 0
    have g4 := hv.2.2.frozen_ 0
    have HV := Lib.hid hv; have HB := Lib.hid hb; have HK := Lib.hid hK
    clear hv hb hp hls hxs hK
    gi_wp2
    refine wpIn_quiet (wpIn_region_held_drew (.inl rfl) (by omega) (by kernel_rfl) (by rintro ⟨_, _, hh⟩; exact hh) (S := (fun U => U.cell? ⟨w.heap.size + 1, 0, none⟩ = some (.int .i64 s0) ∧ U.cell? ⟨w.heap.size + 1, 1, none⟩ = some (.int .i64 s1) ∧ U.cell? ⟨w.heap.size + 1, 2, none⟩ = some (.int .i64 s2) ∧ U.cell? ⟨w.heap.size + 1 + 1, 0, none⟩ = some (.int .i64 xs.length))) (by kernel_rfl) ?_ (fun hHeld => ?_))
    · (simp [go_sem, p0, p1, p2, p3])
    refine wpAnyH_take (i := 0) (oi := ?or12n1) (v := ?vr12n1) ?hr12n1 (by kernel_rfl) (by kernel_rfl) (by kernel_rfl) ?qr12n1 ?yr12n1 (by assumption) ?rr12n1
    case hr12n1 => (simp only [List.getElem?_toArray, List.getElem?_cons_succ, List.getElem?_cons_zero]; rfl)
    case qr12n1 => exact fun _ _ _ h => h
    case yr12n1 => (refine Or.inl ⟨by rfl, ?_⟩; intro w hSw; (try dsimp only at hSw); go_simp; first | done | with_reducible rfl)
    (try simp only [Act.put, List.setIfInBounds_toArray, List.set_cons_zero, List.set_cons_succ])
    refine wpAnyH_take (i := 1) (oi := ?or12n2) (v := ?vr12n2) ?hr12n2 (by kernel_rfl) (by kernel_rfl) (by kernel_rfl) ?qr12n2 ?yr12n2 (by assumption) ?rr12n2
    case hr12n2 => (simp only [List.getElem?_toArray, List.getElem?_cons_succ, List.getElem?_cons_zero]; rfl)
    case qr12n2 => exact fun _ _ _ h => h
    case yr12n2 => (refine Or.inl ⟨by rfl, ?_⟩; intro w hSw; (try dsimp only at hSw); go_simp; first | done | with_reducible rfl)
    (try simp only [Act.put, List.setIfInBounds_toArray, List.set_cons_zero, List.set_cons_succ])
    refine wpAnyH_ready (rs := [2]) (by kernel_rfl) (by simp) ?_
    refine AllReadyH.cons (o := ?or12n3) ?hr12n3 (fun K hK => ?sr12n3) AllReadyH.nil
    case hr12n3 => (simp only [List.getElem?_toArray, List.getElem?_cons_succ, List.getElem?_cons_zero]; rfl)
    go_simp
    refine hK.out _ _ ?_ (fun hHeld => ?_)
    · (simp [go_sem, p0, p1, p2, p3, p4])
    clear hK K
    (try simp only [Act.put, List.setIfInBounds_toArray, List.set_cons_zero, List.set_cons_succ])
    refine wpAnyH_ready (rs := [3]) (by kernel_rfl) (by simp) ?_
    refine AllReadyH.cons (o := ?or12n4) ?hr12n4 (fun K hK => ?sr12n4) AllReadyH.nil
    case hr12n4 => (simp only [List.getElem?_toArray, List.getElem?_cons_succ, List.getElem?_cons_zero]; rfl)
    go_simp
    refine hK.out _ _ ?_ (fun hHeld => ?_)
    · (simp [go_sem, p0, p1, p2, p3, p4])
    clear hK K
    (try simp only [Act.put, List.setIfInBounds_toArray, List.set_cons_zero, List.set_cons_succ])
    refine wpAnyH_ready (rs := [4]) (by kernel_rfl) (by simp) ?_
    refine AllReadyH.cons (o := ?or12n5) ?hr12n5 (fun K hK => ?sr12n5) AllReadyH.nil
    case hr12n5 => (simp only [List.getElem?_toArray, List.getElem?_cons_succ, List.getElem?_cons_zero]; rfl)
    go_simp
    refine hK.out _ _ ?_ (fun hHeld => ?_)
    · (simp [go_sem, p0, p1, p2, p3, p4])
    clear hK K
    (try simp only [Act.put, List.setIfInBounds_toArray, List.set_cons_zero, List.set_cons_succ])
    refine wpAnyH_done (by kernel_rfl) ?_ _
    obtain ⟨U, hU⟩ : ∃ U, (((((V.setCell ⟨w.heap.size + 1, 0, none⟩ (.int .i64 s0)).setCell ⟨w.heap.size + 1, 1, none⟩ (.int .i64 s1)).setCell ⟨w.heap.size + 1, 2, none⟩ (.int .i64 s2)).setCell ⟨w.heap.size + 1 + 1, 0, none⟩ (.int .i64 xs.length)).setCell ⟨w.heap.size + 1 + 1 + 1, 0, none⟩ (.int .i64 0)).drew = U := ⟨_, rfl⟩
    have HU := Lib.hid (run_put HV.out _ U hU)
    rw [hU]
    clear hU
    simp only [Quiet]
    gi_wp2
    show LeavesInM _ _ _ _ _ _ _ _ _
    exact run_end (R := runR (s, f, g) l) HU.out.1 (HU.out.2.2.2.1 _ HB.out) (by have := HSW.out; omega) ((HU.out.2.2.2.2 _ (by have := HSW.out; omega)).trans HK.out) (by rw [HE.out, HR.out]) rfl rfl rfl
  case stop =>
    rintro c pre G V hSp ⟨rfl, pre', t, e, rfl, he, hp, hv, hb⟩ hsz hK
    have HR : Hid (runU (s, f, g) l = (lastU (s, f, g) pre', (pre'.length : Int), e)) := runU_bad l _ pre' t e hSp hp he
    obtain ⟨⟨s0, s1, s2⟩, hls⟩ : ∃ r, lastU (s, f, g) pre' = r := ⟨_, rfl⟩
    rw [hls] at hv HR
    have HSW := Lib.hid sW
    clear sW
    gi_wp2
    show LeavesInM _ _ _ _ _ _ _ _ _
    exact run_end (R := runR (s, f, g) l) hv hb (by have := HSW.out; omega) hK (by rw [HE.out, HR.out]) rfl rfl rfl
end Go.Proofs.YtngenoblifhnpaaDoor
