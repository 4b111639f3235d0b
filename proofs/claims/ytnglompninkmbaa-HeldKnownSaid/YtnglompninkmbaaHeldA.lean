/- keys, and index.add: a range over a function whose body looks into a map, and one whose body writes it. -/
import Derived.Test.YtnglompninkmbaaHeldM
import Derived.RangeFuncNested
import Derived.RangeFuncBound
import Derived.RangeFuncCalls
import Derived.RangeFuncLeaves
import Derived.Shelf.Abstract
import Derived.Shelf.RegionOpen
import Derived.OwnWalkIn
import Derived.TacticsInMore
import Derived.LoopNIn
import Derived.LoopIn
namespace Go.Proofs.Ytnglompninkmbaa
open Go.RowKit Go.Maps
open Go.Shelf
attribute [local go_sem] Oper.semAt_some

/-- The keys of a write. -/
def keysOf (s f c : Int) : List (Int × Int) := [(1, s), (2, f)] ++ if c = 0 then [] else [(3, c)]

set_option maxRecDepth 100000 in
set_option maxHeartbeats 1000000 in
theorem keys_in (F : Fence) (n : Nat) (h5 : F.fn 48) (hro : F.round = none) (s f c : Int) (w : World) :
    CallsIn F n Try.prog 48 #[.agg #[.int .i64 s, .int .i64 f, .int .i64 c]] w fun e w' =>
      e = .returned (.func (.func 52) #[] #[.pointer (some ⟨w.heap.size, 0, none⟩)]) ∧ w' = w.alloc (.cells #[.int .i64 s, .int .i64 f, .int .i64 c] 28) := by
  refine callsIn_of_wp Try.func48 rfl h5 ?_ hro
  simp only [Try.ntmps48, List.size_toArray, List.length_cons, List.length_nil, Nat.reduceAdd, Nat.reduceSub, Array.replicate_succ, Array.replicate_zero, List.push_toArray, List.append_toArray, List.nil_append, List.cons_append]
  gi_wp2
  go_ret
  exact ⟨rfl, rfl⟩

/-- What a round must keep: the box of the write. -/
def KeepB (Bn : Nat) (W W' : World) : Prop := W'.heap[Bn]? = W.heap[Bn]?

set_option maxRecDepth 100000 in
set_option maxHeartbeats 1000000 in
theorem keys1_in (F : Fence) (n : Nat) (h6 : F.fn 52) (hro : F.round = none) (hn : 1 ≤ n) (l Bn : Nat) (s f c : Int) (J Jx : List (Int × Int) → World → Prop)
    (hY : ∀ pre x W, J pre W → pre.length < (keysOf s f c).length → YieldAt F (n - 1) Try.prog l #[kv x] W fun e W' =>
      (e = .returned (.bool true) ∧ J (pre ++ [x]) W' ∧ KeepB Bn W W') ∨ (e = .returned (.bool false) ∧ Jx (pre ++ [x]) W'))
    (W : World) (hBn : Blk W Bn 28 #[.int .i64 s, .int .i64 f, .int .i64 c]) (h0 : J [] W) :
    CallsIn F n Try.prog 52 #[.func (.yield l) #[] #[], .pointer (some ⟨Bn, 0, none⟩)] W fun e W' => (∃ v, e = .returned v) ∧
      ((∃ ys, ys = keysOf s f c ∧ J ys W') ∨ (∃ pre, pre <+: keysOf s f c ∧ Jx pre W')) := by
  refine callsIn_of_wp Try.func52 rfl h6 ?_ hro
  simp only [Try.ntmps52, List.size_toArray, List.length_cons, List.length_nil, Nat.reduceAdd, Nat.reduceSub, Array.replicate_succ, Array.replicate_zero, List.push_toArray, List.append_toArray, List.nil_append, List.cons_append]
  have c0 := hBn.cell_ 0
  have c1 := hBn.cell_ 1
  have c2 := hBn.cell_ 2
  simp at c0 c1 c2
  obtain ⟨fn1, tmps1, assign1, body1, hy1, hR1⟩ := hY [] (1, s) W h0 (by simp [keysOf])
  dsimp only [kv] at hy1
  gi_wp2
  refine hR1.mono ?_
  clear hR1 hy1
  rintro e W1 (⟨rfl, j1, k1⟩ | ⟨rfl, jx⟩)
  · have hB1 : Blk W1 Bn 28 #[.int .i64 s, .int .i64 f, .int .i64 c] := k1.trans hBn
    have d0 := hB1.cell_ 0
    have d1 := hB1.cell_ 1
    have d2 := hB1.cell_ 2
    simp at d0 d1 d2
    obtain ⟨fn2, tmps2, assign2, body2, hy2, hR2⟩ := hY [(1, s)] (2, f) W1 j1 (by simp [keysOf])
    dsimp only [kv] at hy2
    gi_wp2
    refine hR2.mono ?_
    clear hR2 hy2
    rintro e W2 (⟨rfl, j2, k2⟩ | ⟨rfl, jx⟩)
    · have hB2 : Blk W2 Bn 28 #[.int .i64 s, .int .i64 f, .int .i64 c] := k2.trans hB1
      have e0 := hB2.cell_ 0
      have e1 := hB2.cell_ 1
      have e2 := hB2.cell_ 2
      simp at e0 e1 e2
      by_cases hc : c = 0
      · subst hc
        gi_wp2
        go_end0
        exact ⟨⟨_, rfl⟩, .inl ⟨_, rfl, by simpa [keysOf] using j2⟩⟩
      · obtain ⟨fn3, tmps3, assign3, body3, hy3, hR3⟩ := hY [(1, s), (2, f)] (3, c) W2 j2 (by simp [keysOf, hc])
        dsimp only [kv] at hy3
        gi_wp2
        refine hR3.mono ?_
        clear hR3 hy3
        rintro e W3 (⟨rfl, j3, k3⟩ | ⟨rfl, jx⟩)
        · gi_wp2
          go_end0
          exact ⟨⟨_, rfl⟩, .inl ⟨_, rfl, by simpa [keysOf, hc] using j3⟩⟩
        · gi_wp2
          go_end0
          exact ⟨⟨_, rfl⟩, .inr ⟨_, List.prefix_refl _, by simpa [keysOf, hc] using jx⟩⟩
    · gi_wp2
      refine bodyPost_ret (results_none rfl _ _ _) rfl ?_
      exact ⟨⟨_, rfl⟩, .inr ⟨_, ⟨_, rfl⟩, jx⟩⟩
  · gi_wp2
    refine ⟨fun _ h => (by cases h), ?_⟩
    gi_wp2
    refine bodyPost_ret (results_none rfl _ _ _) rfl ?_
    exact ⟨⟨_, rfl⟩, .inr ⟨[(1, s)], ⟨[(2, f)] ++ if c = 0 then [] else [(3, c)], by simp [keysOf]⟩, jx⟩⟩

theorem keys_stops (F : Fence) (n : Nat) (h6 : F.fn 52) (hro : F.round = none) (hn : 1 ≤ n) (Bn : Nat) (s f c : Int) (w : World) (hBn : Blk w Bn 28 #[.int .i64 s, .int .i64 f, .int .i64 c]) :
    SeqStopsK F n Try.prog 52 #[.pointer (some ⟨Bn, 0, none⟩)] (fun x : Int × Int => #[kv x]) (KeepB Bn) (fun ys => ys = keysOf s f c) (fun pre => pre <+: keysOf s f c) (keysOf s f c).length w := fun l J Jx W hW _ _ hY h0 =>
  keys1_in F n h6 hro hn l Bn s f c J Jx hY W (hBn.below_ hW hBn.lt) h0
theorem keepB_t {Bn : Nat} {A B C : World} (h : KeepB Bn A B) (k : KeepB Bn B C) : KeepB Bn A C := Eq.trans k h
theorem keepB_b {Bn : Nat} {w : World} (hn : Bn < w.heap.size) (W : World) (l : Nat) (o o' : Obj) (hl : w.heap.size ≤ l) (h : W.heap[l]? = some o) (_ : o.isCells = false) (_ : o.isWalk = false) : KeepB Bn W (W.putObj l o') :=
  (belowK_b (n₀ := w.heap.size) (w := w) (Nat.le_refl _) W l o o' hl h ‹_› ‹_›).block Bn hn

/-- index.add: whether none of the keys is there, and the map with them. -/
def addM (m : List ((Int × Int) × Int)) (s f c i : Int) : List ((Int × Int) × Int) := m ++ (keysOf s f c).map (fun k => (k, i))
theorem grown_refl' (a : World) (row : Option Nat) : a.grownBy a row := ⟨rfl, rfl, rfl, Nat.le_refl _, fun _ _ _ => rfl⟩
def clashM (m : List ((Int × Int) × Int)) (s f c : Int) : Bool := (keysOf s f c).any (fun k => (m.lookup k).isSome)
def addIf (m : List ((Int × Int) × Int)) (s f c i : Int) : List ((Int × Int) × Int) := if clashM m s f c then m else addM m s f c i
theorem fold_put (i : Int) : ∀ (ks : List (Int × Int)) (m : List ((Int × Int) × Int)), (∀ k ∈ ks, m.lookup k = none) → ks.Nodup → ks.foldl (fun m k => putL m k i) m = m ++ ks.map (fun k => (k, i))
  | [], m, _, _ => by simp
  | k :: ks, m, h, hn => by
    rw [List.foldl_cons, putL_none i (h k (by simp)), fold_put i ks _ ?_ (List.nodup_cons.1 hn).2]
    · simp
    · intro k' hk'
      have hne : k' ≠ k := fun e => (List.nodup_cons.1 hn).1 (e ▸ hk')
      rw [List.lookup_append, h k' (by simp [hk'])]
      have : (k' == k) = false := by simpa using hne
      simp [List.lookup_cons, this]
theorem keysOf_nodup (s f c : Int) : (keysOf s f c).Nodup := by
  unfold keysOf
  split <;> simp

theorem blk_own {β : Type} (B : Nat) (t : TypeId) (cs : β → Array Value) : _root_.Go.Own (fun s W => Blk W B t (cs s)) := fun s X Y row hs hg hrow =>
  (hg.block B hs.lt (fun e => by
    obtain ⟨o, ho, hc⟩ := hrow B e.symm
    rw [show X.heap[B]? = _ from hs] at ho
    cases ho; cases hc)).trans hs
theorem grown_own {B : Nat} {W0 : World} (hB : W0.heap.size ≤ B) (ro : Option Nat) {β : Type} : OwnFrom B (fun (_ : β) W => W0.grownBy W ro) := fun _ X Y row hs hg hr =>
  ⟨hg.os.trans hs.os, hg.tape.trans hs.tape, hg.output.trans hs.output, Nat.le_trans hs.size hg.size, fun k hk hne =>
    (hg.block k (Nat.lt_of_lt_of_le hk hs.size) (fun e => by have := (hr k e.symm).1; omega)).trans (hs.block k hk hne)⟩
theorem grown_any {A B : World} {r : Option Nat} (h : A.grownBy B none) : A.grownBy B r := ⟨h.os, h.tape, h.output, h.size, fun k hk _ => h.block k hk (by simp)⟩

set_option maxRecDepth 100000 in
set_option maxHeartbeats 4000000 in
theorem add_in (F : Fence) (n : Nat) (h3 : F.fn 37) (h4 : F.fn 48) (h5 : F.fn 52) (hro : F.round = none) (hn : 6 ≤ n) (B : Nat) (m : List ((Int × Int) × Int)) (s f c i : Int) (w : World) (hm : MapK w B m) :
    CallsIn F n Try.prog 37 #[.map (some B), .agg #[.int .i64 s, .int .i64 f, .int .i64 c], .int .i64 i] w fun e W' =>
      e = .returned (.bool (!clashM m s f c)) ∧ MapK W' B (addIf m s f c i) ∧ w.grownBy W' (some B) := by
  have h1 : 1 ≤ n := by omega
  have hBw := hm.lt
  refine callsIn_of_wp_marks Try.func37 rfl h3 ?_ hro
  simp only [Try.ntmps37, List.size_toArray, List.length_cons, List.length_nil, Nat.reduceAdd, Nat.reduceSub, Array.replicate_succ, Array.replicate_zero, List.push_toArray, List.append_toArray, List.nil_append, List.cons_append]
  gi_wp2_with (gi_at_call 48; refine (keys_in F (n - 1) h4 hro _ _ _ _).mono ?_; rintro e w' ⟨rfl, rfl⟩)
  obtain ⟨W0, hW0⟩ : ∃ W0, ((((w.alloc (.cells #[.map (some B)] 52)).alloc (.cells #[.int .i64 s, .int .i64 f, .int .i64 c] 28)).alloc (.cells #[.int .i64 i] 3)).alloc (.cells #[.bool false] 4)).alloc (.cells #[.int .i64 s, .int .i64 f, .int .i64 c] 28) = W0 := ⟨_, rfl⟩
  have hsz : W0.heap.size = w.heap.size + 5 := by rw [← hW0]; simp
  have b0 : Blk W0 w.heap.size 52 #[.map (some B)] := by rw [← hW0]; exact (by repeat' (first | with_reducible assumption | (with_reducible refine Blk.new_ ?_ ?_ <;> first | (simp; done) | rfl) | with_reducible apply Blk.drew_ | with_reducible apply Blk.drewN_ | with_reducible apply Blk.alloc_ | with_reducible refine Blk.far_ ?_ ?_ _ | (with_reducible refine Blk.below_ ?_ (by assumption) ?_) | (simp; done) | (simp; omega) | omega | with_reducible apply le_size_alloc | with_reducible apply lt_size_alloc | with_reducible apply le_size_drewN | with_reducible apply le_size_drew | with_reducible apply le_size_setCell | refine Nat.lt_of_lt_of_le ?_ (Below.size (by assumption)) | refine Nat.le_trans ?_ (Below.size (by assumption))))
  have b1 : Blk W0 (w.heap.size + 1) 28 #[.int .i64 s, .int .i64 f, .int .i64 c] := by rw [← hW0]; exact (by repeat' (first | with_reducible assumption | (with_reducible refine Blk.new_ ?_ ?_ <;> first | (simp; done) | rfl) | with_reducible apply Blk.drew_ | with_reducible apply Blk.drewN_ | with_reducible apply Blk.alloc_ | with_reducible refine Blk.far_ ?_ ?_ _ | (with_reducible refine Blk.below_ ?_ (by assumption) ?_) | (simp; done) | (simp; omega) | omega | with_reducible apply le_size_alloc | with_reducible apply lt_size_alloc | with_reducible apply le_size_drewN | with_reducible apply le_size_drew | with_reducible apply le_size_setCell | refine Nat.lt_of_lt_of_le ?_ (Below.size (by assumption)) | refine Nat.le_trans ?_ (Below.size (by assumption))))
  have b2 : Blk W0 (w.heap.size + 2) 3 #[.int .i64 i] := by rw [← hW0]; exact (by repeat' (first | with_reducible assumption | (with_reducible refine Blk.new_ ?_ ?_ <;> first | (simp; done) | rfl) | with_reducible apply Blk.drew_ | with_reducible apply Blk.drewN_ | with_reducible apply Blk.alloc_ | with_reducible refine Blk.far_ ?_ ?_ _ | (with_reducible refine Blk.below_ ?_ (by assumption) ?_) | (simp; done) | (simp; omega) | omega | with_reducible apply le_size_alloc | with_reducible apply lt_size_alloc | with_reducible apply le_size_drewN | with_reducible apply le_size_drew | with_reducible apply le_size_setCell | refine Nat.lt_of_lt_of_le ?_ (Below.size (by assumption)) | refine Nat.le_trans ?_ (Below.size (by assumption))))
  have b3 : Blk W0 (w.heap.size + 3) 4 #[.bool false] := by rw [← hW0]; exact (by repeat' (first | with_reducible assumption | (with_reducible refine Blk.new_ ?_ ?_ <;> first | (simp; done) | rfl) | with_reducible apply Blk.drew_ | with_reducible apply Blk.drewN_ | with_reducible apply Blk.alloc_ | with_reducible refine Blk.far_ ?_ ?_ _ | (with_reducible refine Blk.below_ ?_ (by assumption) ?_) | (simp; done) | (simp; omega) | omega | with_reducible apply le_size_alloc | with_reducible apply lt_size_alloc | with_reducible apply le_size_drewN | with_reducible apply le_size_drew | with_reducible apply le_size_setCell | refine Nat.lt_of_lt_of_le ?_ (Below.size (by assumption)) | refine Nat.le_trans ?_ (Below.size (by assumption))))
  have b4 : Blk W0 (w.heap.size + 4) 28 #[.int .i64 s, .int .i64 f, .int .i64 c] := by rw [← hW0]; exact (by repeat' (first | with_reducible assumption | (with_reducible refine Blk.new_ ?_ ?_ <;> first | (simp; done) | rfl) | with_reducible apply Blk.drew_ | with_reducible apply Blk.drewN_ | with_reducible apply Blk.alloc_ | with_reducible refine Blk.far_ ?_ ?_ _ | (with_reducible refine Blk.below_ ?_ (by assumption) ?_) | (simp; done) | (simp; omega) | omega | with_reducible apply le_size_alloc | with_reducible apply lt_size_alloc | with_reducible apply le_size_drewN | with_reducible apply le_size_drew | with_reducible apply le_size_setCell | refine Nat.lt_of_lt_of_le ?_ (Below.size (by assumption)) | refine Nat.le_trans ?_ (Below.size (by assumption))))
  have hg0 : w.grownBy W0 none := by
    rw [← hW0]
    exact (((((World.grownBy_alloc w _ none).trans (World.grownBy_alloc _ _ none)).trans (World.grownBy_alloc _ _ none)).trans (World.grownBy_alloc _ _ none)).trans (World.grownBy_alloc _ _ none))
  have hm0 : MapK W0 B m := hm.grown_ hg0 (by simp)
  rw [hW0]
  clear hW0
  refine wpIn_rangeFunc_ownH hro h1 (gf := 52) (lb := #[.pointer (some ⟨w.heap.size + 1 + 1 + 1 + 1, 0, none⟩)]) rfl h5 (enters_of Try.func52 (by kernel_rfl) rfl)
    (keys_stops F (n - 1) h5 hro (by omega) (w.heap.size + 4) s f c W0 b4) keepB_t (keepB_b (by omega)) (Below.refl _ _) (fun _ => rfl)
    (fun pre W => (∀ k ∈ pre, m.lookup k = none) ∧ W0.grownBy W none)
    (fun co pre W => co = .ret ∧ (∃ k ∈ pre, m.lookup k ≠ none) ∧ Blk W (w.heap.size + 3) 4 #[.bool false] ∧ W0.grownBy W (some (w.heap.size + 3)))
    (OwnFrom.and (fun _ _ _ _ hs _ _ => hs) (grown_own (Nat.le_refl _) none))
    (fun co => OwnFrom.and (fun _ _ _ _ hs _ _ => hs) (OwnFrom.and (fun _ _ _ _ hs _ _ => hs) (OwnFrom.and (Own.from (blk_own _ _ _) _) (grown_own (Nat.le_refl _) _))))
    ⟨by simp, grown_refl' _ _⟩
    (fun x a' W => ∃ Bx, Blk W Bx 64 #[.int .i64 x.1, .int .i64 x.2] ∧ a' = { tmps := #[.map (some B), .agg #[.int .i64 s, .int .i64 f, .int .i64 c], .int .i64 i, .pointer (some ⟨w.heap.size, 0, none⟩), .pointer (some ⟨w.heap.size + 1, 0, none⟩), .pointer (some ⟨w.heap.size + 1 + 1, 0, none⟩), .pointer (some ⟨w.heap.size + 1 + 1 + 1, 0, none⟩), .pointer (some ⟨Bx, 0, none⟩), undef, undef, undef, .agg #[.int .i64 s, .int .i64 f, .int .i64 c], .func (.func 52) #[] #[.pointer (some ⟨w.heap.size + 1 + 1 + 1 + 1, 0, none⟩)], .agg #[.int .i64 x.1, .int .i64 x.2], undef, undef, undef, undef, undef, undef, undef, undef, undef, undef, undef, undef, undef], defers := [] })
    (fun x a' _ X Y row hs hg hr => by obtain ⟨Bx, h2, h3⟩ := hs; exact ⟨Bx, blk_own Bx _ (fun (_ : Unit) => #[.int .i64 x.1, .int .i64 x.2]) () X Y row h2 hg (fun r e => (hr r e).2), h3⟩)
    ?assign ?body ?done ?stop
  case assign =>
    rintro l pre x W K ⟨hp, hg⟩ hK
    dsimp only [kv]
    gi_wp2
    exact hK _ _ ((KeepsOthers.alloc _ _).from _) (Below.heap_alloc W _ _ (by have := hg.size; omega)) ⟨hp, hg.trans (World.grownBy_alloc _ _ none)⟩ ⟨W.heap.size, Blk.new_ rfl rfl, rfl⟩
  case body =>
    rintro l pre x a' W hl ⟨r, hr⟩ ⟨hp, hg⟩ ⟨Bx, bX, rfl⟩ hlt
    have bM : Blk W w.heap.size 52 #[.map (some B)] := (hg.block _ (by omega) (by simp)).trans b0
    have bR : Blk W (w.heap.size + 3) 4 #[.bool false] := (hg.block _ (by omega) (by simp)).trans b3
    have c0 := bM.cell_ 0
    have c3 := bR.cell_ 0
    have f3 := bR.frozen_ 0
    have x0 := bX.cell_ 0
    have x1 := bX.cell_ 1
    simp at c0 c3 x0 x1
    have hlk := run_lookK (hm0.grown_ hg (by simp)) x
    cases hk : m.lookup x with
    | none =>
      rw [hk] at hlk
      simp only [okOf] at hlk
      gi_wp2
      exact ⟨KeepsFrom.refl _ _, rfl, fun k hk' => by
        rcases List.mem_append.1 hk' with h | h
        · exact hp k h
        · simp at h; subst h; exact hk, hg⟩
    | some v =>
      rw [hk] at hlk
      simp only [okOf] at hlk
      gi_wp2
      exact ⟨(KeepsOthers.setCell _ _ _).from _, rfl, ⟨x, by simp, by simp [hk]⟩, bR.set_ 0 _, (grown_any hg).trans (grownBy_setCell' W (w.heap.size + 3) _)⟩
  case done =>
    rintro D zs W hD rfl ⟨hp, hg⟩ hK
    have bW : Blk W (w.heap.size + 1) 28 #[.int .i64 s, .int .i64 f, .int .i64 c] := (hg.block _ (by omega) (by simp)).trans b1
    have c0 := bW.cell_ 0
    have c1 := bW.cell_ 1
    have c2 := bW.cell_ 2
    simp at c0 c1 c2
    gi_wp2_with (gi_at_call 48; refine (keys_in F (n - 1) h4 hro _ _ _ _).mono ?_; rintro e w' ⟨rfl, rfl⟩)
    obtain ⟨W1, hW1⟩ : ∃ W1, W.alloc (.cells #[.int .i64 s, .int .i64 f, .int .i64 c] 28) = W1 := ⟨_, rfl⟩
    have hsz1 : W1.heap.size = W.heap.size + 1 := by rw [← hW1]; simp
    have hsW := hg.size
    have hDW := (Array.getElem?_eq_some_iff.1 hK).1
    have hg1 : W.grownBy W1 none := by rw [← hW1]; exact World.grownBy_alloc _ _ none
    have b5 : Blk W1 W.heap.size 28 #[.int .i64 s, .int .i64 f, .int .i64 c] := by rw [← hW1]; exact (by repeat' (first | with_reducible assumption | (with_reducible refine Blk.new_ ?_ ?_ <;> first | (simp; done) | rfl) | with_reducible apply Blk.drew_ | with_reducible apply Blk.drewN_ | with_reducible apply Blk.alloc_ | with_reducible refine Blk.far_ ?_ ?_ _ | (with_reducible refine Blk.below_ ?_ (by assumption) ?_) | (simp; done) | (simp; omega) | omega | with_reducible apply le_size_alloc | with_reducible apply lt_size_alloc | with_reducible apply le_size_drewN | with_reducible apply le_size_drew | with_reducible apply le_size_setCell | refine Nat.lt_of_lt_of_le ?_ (Below.size (by assumption)) | refine Nat.le_trans ?_ (Below.size (by assumption))))
    have hG : W0.grownBy W1 none := hg.trans hg1
    have d0 : Blk W1 w.heap.size 52 #[.map (some B)] := (hG.block _ (by omega) (by simp)).trans b0
    have d2 : Blk W1 (w.heap.size + 2) 3 #[.int .i64 i] := (hG.block _ (by omega) (by simp)).trans b2
    have d3 : Blk W1 (w.heap.size + 3) 4 #[.bool false] := (hG.block _ (by omega) (by simp)).trans b3
    have hm1 : MapK W1 B m := hm0.grown_ hG (by simp)
    have hK1 : W1.heap[D]? = some (.deferred (some [])) := (hg1.block _ hDW (by simp)).trans hK
    rw [hW1]
    clear hW1
    refine wpIn_rangeFunc_ownH hro h1 (gf := 52) (lb := #[.pointer (some ⟨W.heap.size, 0, none⟩)]) rfl h5 (enters_of Try.func52 (by kernel_rfl) rfl)
      (keys_stops F (n - 1) h5 hro (by omega) W.heap.size s f c W1 b5) keepB_t (keepB_b (by omega)) (Below.refl _ _) (fun _ => rfl)
      (fun pre V => MapK V B (pre.foldl (fun m k => putL m k i) m) ∧ W1.grownBy V (some B))
      (fun _ _ _ => False)
      (OwnFrom.and (fun _ X Y row hs hg hr => hs.grown_ hg (fun e => by have := (hr B e).1; omega)) (grown_own (Nat.le_refl _) _))
      (fun _ _ _ _ _ hs _ _ => hs)
      ⟨hm1, grown_refl' _ _⟩
      (fun x a' V => ∃ Bx, W1.heap.size ≤ Bx ∧ Blk V Bx 64 #[.int .i64 x.1, .int .i64 x.2] ∧ a' = { tmps := #[.map (some B), .agg #[.int .i64 s, .int .i64 f, .int .i64 c], .int .i64 i, .pointer (some ⟨w.heap.size, 0, none⟩), .pointer (some ⟨w.heap.size + 1, 0, none⟩), .pointer (some ⟨w.heap.size + 1 + 1, 0, none⟩), .pointer (some ⟨w.heap.size + 1 + 1 + 1, 0, none⟩), undef, undef, undef, .pointer (some ⟨Bx, 0, none⟩), .agg #[.int .i64 s, .int .i64 f, .int .i64 c], .func (.func 52) #[] #[.pointer (some ⟨w.heap.size + 1 + 1 + 1 + 1, 0, none⟩)], undef, undef, undef, undef, undef, undef, undef, undef, .agg #[.int .i64 s, .int .i64 f, .int .i64 c], .func (.func 52) #[] #[.pointer (some ⟨W.heap.size, 0, none⟩)], .agg #[.int .i64 x.1, .int .i64 x.2], undef, undef, undef], defers := [] })
      (fun x a' _ X Y row hs hg hr => by obtain ⟨Bx, h1, h2, h3⟩ := hs; exact ⟨Bx, h1, blk_own Bx _ (fun (_ : Unit) => #[.int .i64 x.1, .int .i64 x.2]) () X Y row h2 hg (fun r e => (hr r e).2), h3⟩)
      ?assign2 ?body2 ?done2 ?stop2
    case assign2 =>
      rintro l pre x V K ⟨hp, hg⟩ hK
      dsimp only [kv]
      gi_wp2
      exact hK _ _ ((KeepsOthers.alloc _ _).from _) (Below.heap_alloc V _ _ (by have := hg.size; omega)) ⟨hp.grown_ (World.grownBy_alloc _ _ none) (by simp), hg.trans (World.grownBy_alloc _ _ _)⟩ ⟨V.heap.size, hg.size, Blk.new_ rfl rfl, rfl⟩
    case body2 =>
      rintro l pre x a' V hl ⟨r, hr⟩ ⟨hp, hg⟩ ⟨Bx, hBx, bX, rfl⟩ hlt
      have e0 : Blk V w.heap.size 52 #[.map (some B)] := (hg.block _ (by omega) (by simp; omega)).trans d0
      have e2 : Blk V (w.heap.size + 2) 3 #[.int .i64 i] := (hg.block _ (by omega) (by simp; omega)).trans d2
      have c0 := e0.cell_ 0
      have c2 := e2.cell_ 0
      have x0 := bX.cell_ 0
      have x1 := bX.cell_ 1
      simp at c0 c2 x0 x1
      obtain ⟨V', hrun, hp', hg', hs'⟩ := run_putK hp x i
      gi_wp2
      exact ⟨KeepsFrom.of_grownBy hg' (fun j e => by cases e; omega), hg'.block _ (by have := hg.size; omega) (by simp; omega), by rw [List.foldl_append]; exact hp', hg.trans hg'⟩
    case done2 =>
      rintro D2 zs V hD2 rfl ⟨hp2, hg2⟩ hK2
      have e3 : Blk V (w.heap.size + 3) 4 #[.bool false] := (hg2.block _ (by omega) (by simp; omega)).trans d3
      have hKV : V.heap[D]? = some (.deferred (some [])) := (hg2.block _ (by omega) (by simp; omega)).trans hK1
      have c3 := e3.cell_ 0
      have f3 := e3.frozen_ 0
      simp at c3
      gi_wp2
      have hV := hg2.size
      have g1 := grownBy_setCell' V (w.heap.size + 3) (.bool true)
      have s1 := g1.size
      have g2 := grownBy_putObj' (V.setCell ⟨w.heap.size + 3, 0, none⟩ (.bool true)) D2 (.deferred none)
      have s2 := g2.size
      have k2 : ((V.setCell ⟨w.heap.size + 3, 0, none⟩ (.bool true)).putObj D2 (.deferred none)).heap[D]? = some (.deferred (some [])) := (g2.block D (by omega) (by simp; omega)).trans ((g1.block D (by omega) (by simp; omega)).trans hKV)
      have g3 := grownBy_putObj' ((V.setCell ⟨w.heap.size + 3, 0, none⟩ (.bool true)).putObj D2 (.deferred none)) D (.deferred none)
      have s3 := g3.size
      refine ⟨by simp, .inl ⟨_, _, rfl, run_takeDeferred ((KeepsOthers.setCell _ _ _).same D2 _ hK2 rfl), ⟨by simp, .inl ⟨_, _, rfl, run_takeDeferred k2, ?_⟩⟩⟩⟩
      obtain ⟨X, hX⟩ : ∃ X, ((V.setCell ⟨w.heap.size + 3, 0, none⟩ (.bool true)).putObj D2 (.deferred none)).putObj D (.deferred none) = X := ⟨_, rfl⟩
      rw [hX] at g3 s3
      have bR : Blk X (w.heap.size + 3) 4 #[.bool true] := (g3.block _ (by omega) (by simp; omega)).trans ((g2.block _ (by omega) (by simp; omega)).trans (e3.set_ 0 (.bool true)))
      have c4 := bR.cell_ 0
      simp at c4
      have hmX : MapK X B (keysOf s f c |>.foldl (fun m k => putL m k i) m) := ((hp2.grown_ g1 (by simp; omega)).grown_ g2 (by simp; omega)).grown_ g3 (by simp; omega)
      have hgX : w.grownBy X (some B) :=
        ⟨g3.os.trans (g2.os.trans (g1.os.trans (hg2.os.trans (hG.os.trans hg0.os)))), g3.tape.trans (g2.tape.trans (g1.tape.trans (hg2.tape.trans (hG.tape.trans hg0.tape)))),
          g3.output.trans (g2.output.trans (g1.output.trans (hg2.output.trans (hG.output.trans hg0.output)))), by omega, fun k hk hne =>
          (g3.block k (by omega) (by simp; omega)).trans ((g2.block k (by omega) (by simp; omega)).trans ((g1.block k (by omega) (by simp; omega)).trans ((hg2.block k (by omega) hne).trans ((hG.block k (by omega) (by simp)).trans (hg0.block k hk (by simp))))))⟩
      have hcl : clashM m s f c = false := by
        unfold clashM
        rw [List.any_eq_false]
        intro k hk
        rw [hp k hk]
        simp
      show LeavesInM _ _ _ _ _ _ [] .returning (((V.setCell ⟨w.heap.size + 3, 0, none⟩ (.bool true)).putObj D2 (.deferred none)).putObj D (.deferred none))
      rw [hX]
      refine ⟨.bool true, ?_, by rw [hcl]; rfl, ?_, hgX⟩
      · simp [results, Try.f37, go_sem, c4]
      · unfold addIf
        rw [hcl]
        unfold addM
        rw [← fold_put i (keysOf s f c) m hp (keysOf_nodup s f c)]
        exact hmX
    case stop2 =>
      rintro D c pre W _ _ h _
      exact h.elim
  case stop =>
    rintro D co pre W hD hpr ⟨rfl, hex, bR, hg⟩ hK
    gi_wp2
    refine ⟨by simp, .inl ⟨_, _, rfl, run_takeDeferred hK, ?_⟩⟩
    have bR' : Blk (W.putObj D (.deferred none)) (w.heap.size + 3) 4 #[.bool false] := blk_own (β := Unit) _ _ (fun _ => #[.bool false]) () _ _ _ bR (grownBy_putObj' _ D (.deferred none)) (fun r e => by cases e; exact ⟨_, hK, rfl⟩)
    have c3 := bR'.cell_ 0
    simp at c3
    have hcl : clashM m s f c = true := by
      obtain ⟨k, hk, hne⟩ := hex
      unfold clashM
      rw [List.any_eq_true]
      exact ⟨k, hpr.subset hk, by rw [Option.isSome_iff_ne_none]; exact hne⟩
    have hG : w.grownBy (W.putObj D (.deferred none)) none := by
      have h1 := grownBy_putObj' W D (.deferred none)
      exact ⟨h1.os.trans (hg.os.trans hg0.os), h1.tape.trans (hg.tape.trans hg0.tape), h1.output.trans (hg.output.trans hg0.output), Nat.le_trans hg0.size (Nat.le_trans hg.size h1.size), fun k hk _ =>
        (h1.block k (by have := hg.size; omega) (by simp; omega)).trans ((hg.block k (by omega) (by simp; omega)).trans (hg0.block k hk (by simp)))⟩
    refine ⟨.bool false, ?_, by rw [hcl]; rfl, ?_, grown_any hG⟩
    · simp [results, Try.f37, go_sem, c3]
    · unfold addIf
      rw [hcl]
      exact hm.grown_ hG (by simp)

/-- index.add as a plain contract. -/
theorem add_c (B : Nat) (m : List ((Int × Int) × Int)) (s f c i : Int) (w : World) (hm : MapK w B m) :
    Calls Try.prog 37 #[.map (some B), .agg #[.int .i64 s, .int .i64 f, .int .i64 c], .int .i64 i] w fun e W' =>
      e = .returned (.bool (!clashM m s f c)) ∧ MapK W' B (addIf m s f c i) ∧ w.grownBy W' (some B) :=
  (callsIn_wide (n := 6)).1 (add_in Fence.wide 6 trivial trivial trivial rfl (Nat.le_refl _) B m s f c i w hm)
end Go.Proofs.Ytnglompninkmbaa
