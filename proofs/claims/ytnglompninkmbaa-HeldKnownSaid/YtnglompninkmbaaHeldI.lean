/- held.under and its iterator; slices.AppendSeq and slices.Collect over an iterator that reads memory. -/
import Derived.Test.YtnglompninkmbaaHeldB
import Derived.Test.YtnglompninkmbaaHeldA
import Derived.Maps.AppendAt
namespace Go.Proofs.Ytnglompninkmbaa
open Go.RowKit Go.Maps
open Go.Shelf
attribute [local go_sem] Oper.semAt_some

set_option maxRecDepth 100000 in
set_option maxHeartbeats 1000000 in
theorem under_in (F : Fence) (n : Nat) (h5 : F.fn 47) (hro : F.round = none) (A : Option Addr) (m c : Nat) (w : World) :
    CallsIn F n Try.prog 47 #[.slice A m c] w fun e w' =>
      e = .returned (.func (.func 51) #[] #[.pointer (some ⟨w.heap.size, 0, none⟩)]) ∧ w' = w.alloc (.cells #[.slice A m c] 23) := by
  refine callsIn_of_wp Try.func47 rfl h5 ?_ hro
  simp only [Try.ntmps47, List.size_toArray, List.length_cons, List.length_nil, Nat.reduceAdd, Nat.reduceSub, Array.replicate_succ, Array.replicate_zero, List.push_toArray, List.append_toArray, List.nil_append, List.cons_append]
  gi_wp2
  go_ret
  exact ⟨rfl, rfl⟩

/-- The frames of a list of writes. -/
def frs (l : List Wr) : List Int := l.map (fun x => x.2.1)
set_option maxRecDepth 100000 in
set_option maxHeartbeats 2000000 in
theorem under1_in (F : Fence) (n : Nat) (h6 : F.fn 51) (hro : F.round = none) (hn : 1 ≤ n) (lp B : Nat) (A : Option Addr) (c : Nat) (xs : List Wr) (w : World) (hs : SW w A xs) (lx : xs.length ≤ 1000) (J Jx : List Int → World → Prop)
    (hY : ∀ pre x W, J pre W → pre.length < xs.length → YieldAt F (n - 1) Try.prog lp #[.int .i64 x] W fun e W' =>
      (e = .returned (.bool true) ∧ J (pre ++ [x]) W' ∧ Below w.heap.size W W') ∨ (e = .returned (.bool false) ∧ Jx (pre ++ [x]) W'))
    (W : World) (hW : Below w.heap.size w W) (hJ : AbidesFrom W.heap.size J) (hB : Blk w B 23 #[.slice A xs.length c]) (h0 : J [] W) :
    CallsIn F n Try.prog 51 #[.func (.yield lp) #[] #[], .pointer (some ⟨B, 0, none⟩)] W fun e W' => (∃ v, e = .returned v) ∧
      ((∃ ys, ys = frs xs ∧ J ys W') ∨ (∃ pre, pre <+: frs xs ∧ Jx pre W')) := by
  have HS := Lib.hid hs
  have hBl := hB.lt
  have c0 := (hB.below_ hW hBl).cell_ 0
  simp at c0
  clear hs
  refine callsIn_of_wp Try.func51 rfl h6 ?_ hro
  simp only [Try.ntmps51, List.size_toArray, List.length_cons, List.length_nil, Nat.reduceAdd, Nat.reduceSub, Array.replicate_succ, Array.replicate_zero, List.push_toArray, List.append_toArray, List.nil_append, List.cons_append]
  gi_wp2
  gi_loopw [7] (fun i wr => ∃ k : Nat, k ≤ xs.length ∧ i = .int .i64 k ∧ J (frs (xs.take k)) wr ∧ Below w.heap.size w wr) (fun i _ => xs.length - (intOf i).toNat)
  case atStart => exact ⟨0, by omega, rfl, h0, hW⟩
  case round =>
    obtain ⟨k, hk, rfl, hj, hbw⟩ := hrel
    by_cases hlt : k < xs.length
    · obtain ⟨b, off, x, rfl, hbl, hx, q0, q1, q2⟩ := (HS.out.ext hbw).at_ hlt
      have i1 : (k : Int) < xs.length := by omega
      have hfr : Hid (frs (xs.take (k + 1)) = frs (xs.take k) ++ [x.2.1]) := by
        show _ = _
        obtain ⟨hk', rfl⟩ := List.getElem?_eq_some_iff.1 hx
        rw [List.take_succ_eq_append_getElem hk']
        unfold frs
        rw [List.map_append]
        rfl
      have hpre : Hid (frs (xs.take k) ++ [x.2.1] <+: frs xs) := by
        show _ <+: _
        rw [← hfr.out]
        exact (List.take_prefix _ _).map _
      clear hx
      obtain ⟨W1, hW1⟩ : ∃ W1, wr.alloc (.cells #[.int .i64 x.1, .int .i64 x.2.1, .int .i64 x.2.2] 28) = W1 := ⟨_, rfl⟩
      have hb1 : Below w.heap.size w W1 := by rw [← hW1]; exact hbw.alloc hbw.size _
      have hj1 : J (frs (xs.take k)) W1 := by rw [← hW1]; exact hJ _ wr _ none hj (World.grownBy_alloc _ _ none) (fun r e => by cases e)
      have kb : Blk W1 wr.heap.size 28 #[.int .i64 x.1, .int .i64 x.2.1, .int .i64 x.2.2] := by rw [← hW1]; exact Blk.new_ rfl rfl
      have k1 := kb.cell_ 1
      simp at k1
      obtain ⟨fn1, tmps1, assign1, body1, hy1, hR1⟩ := hY _ x.2.1 W1 hj1 (by simp [frs]; omega)
      gi_wp2
      refine hR1.mono ?_
      clear hR1 hy1 hW1
      rintro e W2 (⟨rfl, j2, k2⟩ | ⟨rfl, jx⟩)
      · gi_wp2
        go_roundw
        case rel => exact ⟨k + 1, by omega, by go_num, by rw [hfr.out]; exact j2, hb1.trans k2⟩
        case measure => simp [intOf]; omega
      · gi_wp2
        refine bodyPost_ret (results_none rfl _ _ _) rfl ?_
        exact ⟨⟨_, rfl⟩, .inr ⟨_, hpre.out, jx⟩⟩
    · have hd : xs.take k = xs := List.take_of_length_le (by omega)
      have hj' := hj
      rw [hd] at hj'
      clear hd
      gi_wp2
      go_end0
      exact ⟨⟨_, rfl⟩, .inl ⟨_, rfl, hj'⟩⟩
theorem under_stops (F : Fence) (n : Nat) (h6 : F.fn 51) (hro : F.round = none) (hn : 1 ≤ n) (B : Nat) (A : Option Addr) (c : Nat) (xs : List Wr) (w : World) (hs : SW w A xs) (lx : xs.length ≤ 1000) (hB : Blk w B 23 #[.slice A xs.length c]) :
    SeqStopsK F n Try.prog 51 #[.pointer (some ⟨B, 0, none⟩)] (fun x : Int => #[.int .i64 x]) (Below w.heap.size) (fun ys => ys = frs xs) (fun pre => pre <+: frs xs) xs.length w := fun l J Jx W hW hJ _ hY h0 =>
  under1_in F n h6 hro hn l B A c xs w hs lx J Jx hY W hW hJ hB h0

set_option maxRecDepth 100000 in
set_option maxHeartbeats 2000000 in
theorem appendSeq_in (F : Fence) (n : Nat) (h11 : F.fn 53) (hro : F.round = none) (hn : 2 ≤ n) (gf : Nat) (lb : Array Value) (hFg : F.fn gf) (eg : ∀ args w, (callFunc gf args).run Try.prog w = .ok (.enter gf args) w)
    (S Sp : List Int → Prop) (N : Nat) (hN : N ≤ 1000) (w : World) (hseq : SeqStopsK F (n - 1) Try.prog gf lb (fun x : Int => #[.int .i64 x]) (Below w.heap.size) S Sp N w) :
    CallsIn F n Try.prog 53 #[.slice none 0 0, .func (.func gf) #[] lb] w fun e w' => ∃ (v : Value) (ss : List Int), e = .returned v ∧ S ss ∧ w'.ownsRow w.heap.size 3 1 v ss.length (ss.map (.int .i64)) ∧ Below w.heap.size w w' := by
  have h1 : 1 ≤ n := by omega
  obtain ⟨i0, hi0, hz0, hz1, hz2⟩ := info_parts intInfo
  refine callsIn_of_wp_marks Try.func53 rfl h11 ?_ hro
  simp only [Try.ntmps53, List.size_toArray, List.length_cons, List.length_nil, Nat.reduceAdd, Nat.reduceSub, Array.replicate_succ, Array.replicate_zero, List.push_toArray, List.append_toArray, List.nil_append, List.cons_append]
  gi_wp2
  obtain ⟨W0, hW0⟩ : ∃ W0, w.alloc (.cells #[.slice none 0 0] 22) = W0 := ⟨_, rfl⟩
  have hb0 : Below w.heap.size w W0 := by rw [← hW0]; exact (Below.refl _ w).alloc (Nat.le_refl _) _
  have hv0 : Boxed W0 w.heap.size 22 (.slice none 0 0) := by rw [← hW0]; exact Boxed.new _ _ _
  have hs0 : W0.heap.size = w.heap.size + 1 := by rw [← hW0]; simp
  rw [hW0]
  clear hW0
  refine wpIn_rangeFunc_ownF hro h1 (gf := gf) (lb := lb) rfl hFg eg hseq belowK_t (belowK_b (by omega)) hb0 (fun _ => rfl)
    (fun pre W => (∃ v, Boxed W w.heap.size 22 v ∧ W.ownsRow w.heap.size 3 1 v pre.length (pre.map (.int .i64)) ∧ True) ∧ Below w.heap.size w W)
    (fun _ _ _ => False)
    (OwnFrom.and (Own.from (holdsRow_own w.heap.size w.heap.size 22 3 1 (fun pre : List Int => pre.length) (fun pre => pre.map (.int .i64)) (fun _ _ => True)) _) (ownFrom_below (Nat.le_refl _) (by omega)))
    (fun _ _ _ _ _ hs _ _ => hs)
    ⟨⟨_, hv0, World.ownsRow_nil _ _ _ _, trivial⟩, hb0⟩
    (fun x => { tmps := #[.slice none 0 0, .func (.func gf) #[] lb, .pointer (some ⟨w.heap.size, 0, none⟩), undef, .slice none 0 0, .int .i64 x, .func (.func gf) #[] lb, .int .i64 x, undef, undef, undef, undef, undef], defers := [] })
    ?assign ?body ?done ?stop
  case assign =>
    intro l x W K hK
    gi_wp2
    exact hK
  case body =>
    rintro l pre x W ⟨⟨v, hv, hrow, _⟩, hB⟩ hlt
    have hc := hv.cell
    gi_wp2_with (gi_at_builtin; refine wpListIn_append_own _ rfl _ _ 22 rfl w.heap.size 3 i0 (.int .i64 0) 1 8 Try.underlying22 hi0 hz0 hz1 hz2 rfl (by decide) _ _ _ rfl (hrow.alloc _) ⟨W.heap.size, 0, none⟩ 1 1 [.int .i64 x] rfl rfl (cell_one_new _ _ _) (by simp [Value.oneCell']) (by unfold maxLen; omega) (by omega) (by have := hB.size; simp; omega) ?_; intro v' w1 hown' hgrow _; obtain ⟨g', cap', rfl⟩ := ownsRow_succ hown'; obtain ⟨hv1, hv2, hr2, hk2, hb2⟩ := hv.appended (by decide) hrow hB.size (Nat.le_refl _) hown' hgrow; have hc1 := hv1.cell; have hf1 := hv1.frozen)
    exact ⟨hk2, hb2, ⟨_, hv2, by simpa using hr2, trivial⟩, hB.trans hb2⟩
  case done =>
    rintro D xs W hD hS ⟨⟨v, hv, hrow, _⟩, hB⟩ hK
    have hc := hv.cell
    gi_wp2
    refine ⟨by simp, .inl ⟨_, _, rfl, run_takeDeferred hK, ?_⟩⟩
    exact ⟨_, results_tmp rfl _ _ _, v, xs, rfl, hS, ownsRow_putObj hrow _ hK rfl, hB.trans (belowK_b (w := w) (Nat.le_refl _) W D _ _ (by omega) hK rfl rfl)⟩
  case stop =>
    rintro D c pre W _ _ h _
    exact h.elim
end Go.Proofs.Ytnglompninkmbaa
