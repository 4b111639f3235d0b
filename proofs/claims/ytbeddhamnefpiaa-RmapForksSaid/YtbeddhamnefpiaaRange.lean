/- A range over a function whose iterator keeps variables of its own in memory and hands over values that lie there: the iterator and the rounds each keep to their own blocks ('Aside'); the blocks that the rounds make are theirs (G). -/
import Derived.Test.YtbeddhamnefpiaaMem
import Derived.RangeFuncNested
namespace Go.Proofs.Ytbeddhamnefpiaa
set_option linter.unusedSimpArgs false
set_option linter.unusedVariables false
open Go.RowKit Go.Maps

/-- w' is as w was but for blocks of Z and new ones. -/
structure Aside (Z : Nat → Prop) (w w' : World) : Prop where
  os : w'.os = w.os
  tape : w'.tape = w.tape
  output : w'.output = w.output
  size : w.heap.size ≤ w'.heap.size
  block : ∀ k, k < w.heap.size → ¬ Z k → w'.heap[k]? = w.heap[k]?
section
variable {Z Z' : Nat → Prop} {a b c w w' : World}
theorem Aside.refl (Z : Nat → Prop) (w : World) : Aside Z w w := ⟨rfl, rfl, rfl, Nat.le_refl _, fun _ _ _ => rfl⟩
theorem Aside.trans (h : Aside Z a b) (k : Aside Z b c) : Aside Z a c :=
  ⟨k.os.trans h.os, k.tape.trans h.tape, k.output.trans h.output, Nat.le_trans h.size k.size, fun i hi hz => (k.block i (Nat.lt_of_lt_of_le hi h.size) hz).trans (h.block i hi hz)⟩
theorem Aside.wide (h : Aside Z w w') (hz : ∀ k, k < w.heap.size → Z k → Z' k) : Aside Z' w w' := ⟨h.os, h.tape, h.output, h.size, fun k hk hn => h.block k hk fun hZ => hn (hz k hk hZ)⟩
theorem Aside.of_below (h : Below w.heap.size w w') : Aside Z w w' := ⟨h.os, h.tape, h.output, h.size, fun k hk _ => h.block k hk⟩
theorem Aside.below {B : Nat} (h : Aside Z w w') (hB : B ≤ w.heap.size) (hz : ∀ k, k < B → ¬ Z k) : Below B w w' := ⟨h.os, h.tape, h.output, h.size, fun k hk => h.block k (Nat.lt_of_lt_of_le hk hB) (hz k hk)⟩
theorem Aside.alloc (h : Aside Z a w) (o : Obj) : Aside Z a (w.alloc o) := h.trans ⟨rfl, rfl, rfl, by simp, fun k hk _ => Below.heap_alloc _ _ _ hk⟩
theorem Aside.setCell (h : Aside Z a w) {p : Addr} (hp : a.heap.size ≤ p.block ∨ Z p.block) (u : Value) : Aside Z a (w.setCell p u) :=
  ⟨h.os, h.tape, h.output, by simpa [World.setCell] using h.size, fun k hk hz => (Below.heap_setCell _ _ _ _ (fun e => by subst e; rcases hp with hp | hp; exact absurd hp (by omega); exact hz hp)).trans (h.block k hk hz)⟩
theorem Aside.putObj (h : Aside Z a w) {r : Nat} (hp : a.heap.size ≤ r ∨ Z r) (o : Obj) : Aside Z a (w.putObj r o) :=
  ⟨h.os, h.tape, h.output, by simpa using h.size, fun k hk hz => (World.putObj_heap_other (fun e => by subst e; rcases hp with hp | hp; exact absurd hp (by omega); exact hz hp)).trans (h.block k hk hz)⟩
theorem Aside.grown (h : Aside Z a w) {row : Option Nat} (hg : w.grownBy w' row) (hr : ∀ k, row = some k → a.heap.size ≤ k ∨ Z k) : Aside Z a w' :=
  ⟨hg.os.trans h.os, hg.tape.trans h.tape, hg.output.trans h.output, Nat.le_trans h.size hg.size, fun k hk hz => (hg.block k (Nat.lt_of_lt_of_le hk h.size) (fun e => by rcases hr k e.symm with h1 | h1; exact absurd h1 (by omega); exact hz h1)).trans (h.block k hk hz)⟩
theorem Aside.cell (h : Aside Z w w') {p : Addr} {v : Value} (hc : w.cell? p = some v) (hp : ¬ Z p.block) : w'.cell? p = some v := by
  rw [← hc]
  unfold World.cell?
  rw [h.block p.block (World.block_lt_of_cell? w p hc) hp]
theorem Aside.blk (h : Aside Z w w') {k : Nat} {t : TypeId} {cs : Array Value} (hk : Blk w k t cs) (hz : ¬ Z k) : Blk w' k t cs := (h.block k hk.lt hz).trans hk
theorem Aside.sl {α : Type} {mk : α → Value} {A : Option Addr} {xs : List α} (h : Aside Z w w') (hs : Sl w mk A xs) (hz : ∀ q, A.map (·.block) = some q → ¬ Z q) : Sl w' mk A xs := fun hn => by
  obtain ⟨b, off, rfl, hb, hc⟩ := hs hn
  exact ⟨b, off, rfl, Nat.lt_of_lt_of_le hb h.size, fun j x hx => h.cell (hc j x hx) (hz b rfl)⟩
end

/-- What the rounds own: the blocks that they have made, and all that was there ahead of the iterator's call but the iterator's own. -/
def Theirs (n : Nat) (Pv G : Nat → Prop) (b : Nat) : Prop := G b ∨ (b < n ∧ ¬ Pv b)
/-- The rounds' blocks behind one round more. -/
def Gn (G : Nat → Prop) (W W' : World) (b : Nat) : Prop := G b ∨ (W.heap.size ≤ b ∧ b < W'.heap.size)

/-- **THE ITERATOR's CONTRACT**: Pv: blocks that lay ahead of its call and that it writes; Cb: blocks that lay there and that the rounds write. -/
def SeqG {α : Type} (F : Fence) (n : Nat) (P : Program) (g : Nat) (lb : Array Value) (encs : α → Array Value) (Mem : α → World → Prop) (Pv Cb : Nat → Prop) (S Sp : List α → Prop) (N : Nat) (w : World) : Prop :=
  ∀ (l : Nat) (J Jx : List α → (Nat → Prop) → World → Prop) (W : World), Below w.heap.size w W → w.heap.size ≤ l → l < W.heap.size →
    (∀ s G W1 W2, J s G W1 → W.heap.size ≤ W1.heap.size → Aside (fun b => ¬ Theirs W.heap.size Pv G b) W1 W2 → J s G W2) →
    (∀ pre x G W1, J pre G W1 → Mem x W1 → pre.length < N → W.heap.size ≤ W1.heap.size → (∀ b, G b → W.heap.size ≤ b ∧ b < W1.heap.size) →
      YieldAt F (n - 1) P l (encs x) W1 fun e W' =>
        (e = .returned (.bool true) ∧ Aside (fun b => G b ∨ Cb b ∨ b = l) W1 W' ∧ J (pre ++ [x]) (Gn G W1 W') W') ∨ (e = .returned (.bool false) ∧ Jx (pre ++ [x]) (Gn G W1 W') W')) →
    (∀ s G W1 W2, Jx s G W1 → W.heap.size ≤ W1.heap.size → Aside (fun b => ¬ Theirs W.heap.size Pv G b) W1 W2 → Jx s G W2) →
    J [] (fun _ => False) W →
    CallsIn F n P g (#[.func (.yield l) #[] #[]] ++ lb) W fun e W' => (∃ v, e = .returned v) ∧ ((∃ xs G, S xs ∧ J xs G W') ∨ (∃ pre G, Sp pre ∧ Jx pre G W'))

/-- How a round may be left. -/
def roundG {α : Type} (B : Nat) (Cb : Nat → Prop) (I : List α → (Nat → Prop) → World → Prop) (Ix : Code → List α → (Nat → Prop) → World → Prop) (xs : List α) (G : Nat → Prop) (W : World) : Exit → Act → World → Prop
  | .normal, _, W' => KeepsFrom B W W' ∧ Aside (fun b => G b ∨ Cb b) W W' ∧ I xs (Gn G W W') W'
  | .ret, _, W' => KeepsFrom B W W' ∧ W.heap.size ≤ W'.heap.size ∧ Ix .ret xs (Gn G W W') W'
  | .exit id, _, W' => KeepsFrom B W W' ∧ W.heap.size ≤ W'.heap.size ∧ Ix (.exit id) xs (Gn G W W') W'
  | .goto t, _, W' => KeepsFrom B W W' ∧ W.heap.size ≤ W'.heap.size ∧ Ix (.goto t) xs (Gn G W W') W'
  | .panic _, _, _ => False
  | .outgrown, _, _ => False

/-- **THE CALLER's LAW.** -/
theorem wpIn_rangeG {F : Fence} {n : Nat} {P : Program} {α : Type} {g : Operand} {ps : Array Tmp} {assign body : Code} {Q : Exit → Act → World → Prop} {a : Act} {w : World}
    (hro : F.round = none) (h1 : 1 ≤ n) {gf : Nat} {lb : Array Value} (hg : a.eval g = .func (.func gf) #[] lb) (hFg : F.fn gf) (eg : ∀ args w, (callFunc gf args).run P w = .ok (.enter gf args) w)
    {encs : α → Array Value} {Mem : α → World → Prop} {Pv Cb : Nat → Prop} {S Sp : List α → Prop} {N : Nat} (hseq : SeqG F (n - 1) P gf lb encs Mem Pv Cb S Sp N w) (hps : ∀ x, (encs x).size = ps.size)
    (hPv : ∀ b, Pv b → b < w.heap.size) (hMem : ∀ x W1 W2, Mem x W1 → w.heap.size ≤ W1.heap.size → Aside (fun b => b = w.heap.size + 1) W1 W2 → Mem x W2)
    (I : List α → (Nat → Prop) → World → Prop) (Ix : Code → List α → (Nat → Prop) → World → Prop)
    (hI : ∀ s G W1 W2, I s G W1 → w.heap.size ≤ W1.heap.size → Aside (fun b => ¬ Theirs w.heap.size Pv G b) W1 W2 → I s G W2)
    (hIx : ∀ c s G W1 W2, Ix c s G W1 → w.heap.size ≤ W1.heap.size → Aside (fun b => ¬ Theirs w.heap.size Pv G b) W1 W2 → Ix c s G W2)
    (hIm : ∀ s G G' W, I s G W → (∀ b, G b → G' b) → I s G' W) (hIxm : ∀ c s G G' W, Ix c s G W → (∀ b, G b → G' b) → Ix c s G' W)
    (h0 : I [] (fun _ => False) w) (Ax : α → Act → World → Prop) (hAx : ∀ x a' W1 W2, Ax x a' W1 → w.heap.size + 2 ≤ W1.heap.size → Aside (fun b => b = w.heap.size + 1) W1 W2 → Ax x a' W2)
    (hMb : ∀ x W1 W2, Mem x W1 → Below W1.heap.size W1 W2 → Mem x W2)
    (hassign : ∀ (l : Nat) (x : α) (W : World) (K : Act → World → Prop), w.heap.size + 2 ≤ W.heap.size → (∀ a' W', Ax x a' W' → Below W.heap.size W W' → K a' W') →
      assign.wpIn (F.inRound l) (n - 1 - 1) P (Exit.then K (fun _ _ _ => False)) { tmps := (ps.zip (encs x)).foldl (fun t (p, v) => t.setIfInBounds p v) a.tmps, defers := [] } W)
    (hbody : ∀ (l : Nat) (pre : List α) (x : α) (G : Nat → Prop) (W : World) (a' : Act), I pre G W → Mem x W → Ax x a' W → pre.length < N → w.heap.size + 2 ≤ W.heap.size → (∀ b, G b → w.heap.size + 2 ≤ b ∧ b < W.heap.size) →
      body.wpIn (F.inRound l) (n - 1 - 1) P (roundG w.heap.size Cb I Ix (pre ++ [x]) G W) a' W)
    (hdone : ∀ (xs : List α) (G : Nat → Prop) (W : World), S xs → I xs G W → w.heap.size + 2 ≤ W.heap.size → W.heap[w.heap.size]? = some (.deferred (some [])) → Q .normal { a with defers := { target := .collected w.heap.size, args := #[] } :: a.defers } W)
    (hstop : ∀ (c : Code) (pre : List α) (G : Nat → Prop) (W : World), Sp pre → Ix c pre G W → w.heap.size + 2 ≤ W.heap.size → W.heap[w.heap.size]? = some (.deferred (some [])) → c.wpIn F n P Q { a with defers := { target := .collected w.heap.size, args := #[] } :: a.defers } W) :
    (Code.rangeFunc g ps assign body).wpIn F n P Q a w := by
  refine wpIn_rangeFunc fun fn hfn => ?_
  rw [hro]
  -- the record of the loop, in a state, with a jump that is pending
  obtain ⟨rec, hrec⟩ : ∃ rec : LoopState → Option Code → Loop, rec = fun st pe => { state := st, pending := pe, fn, tmps := a.tmps, params := ps, assign, body, defers := w.heap.size } := ⟨_, rfl⟩
  obtain ⟨W1, hW1⟩ : ∃ W1, (w.alloc (.deferred (some []))).alloc (.loop (rec .ready none)) = W1 := ⟨_, rfl⟩
  have s1 : W1.heap.size = w.heap.size + 2 := by rw [← hW1]; simp
  have a1 : ∀ Z, Aside Z w W1 := fun Z => by rw [← hW1]; exact ((Aside.refl Z w).alloc _).alloc _
  have b1 : Below w.heap.size w W1 := (a1 (fun _ => False)).below (Nat.le_refl _) (fun _ _ h => h)
  have rL : W1.heap[w.heap.size + 1]? = some (.loop (rec .ready none)) := by
    rw [← hW1]
    have := World.alloc_heap_new (w.alloc (.deferred (some []))) (.loop (rec .ready none))
    rwa [World.size_alloc] at this
  have rD : W1.heap[w.heap.size]? = some (.deferred (some [])) := by
    rw [← hW1]
    exact (Below.heap_alloc _ _ _ (by simp)).trans (World.alloc_heap_new w _)
  have two : ∀ {G : Nat → Prop} {A B : World}, Aside (fun b => ¬ Theirs W1.heap.size Pv G b) A B → W1.heap.size ≤ A.heap.size → ∀ k, k = w.heap.size ∨ k = w.heap.size + 1 → B.heap[k]? = A.heap[k]? := fun {G A B} h hs k hk =>
    h.block k (by omega) fun hn => hn (.inr ⟨by omega, fun hp => by have := hPv k hp; omega⟩)
  have mine : ∀ {G : Nat → Prop} {A B : World}, Aside (fun b => ¬ Theirs W1.heap.size Pv G b) A B → Aside (fun b => ¬ Theirs w.heap.size Pv G b) A B := fun h =>
    h.wide fun k _ hn ht => hn (by rcases ht with ht | ⟨h1, h2⟩; exact .inl ht; exact .inr ⟨by omega, h2⟩)
  have turn : ∀ {G : Nat → Prop} {A : World} (o : Obj), (∀ b, G b → w.heap.size + 2 ≤ b) → Aside (fun b => ¬ Theirs w.heap.size Pv G b) A (A.putObj (w.heap.size + 1) o) := fun {G A} o hG =>
    (Aside.refl _ A).putObj (.inr fun ht => by rcases ht with ht | ht; have := hG _ ht; omega; have := ht.1; omega) o
  refine ⟨w.heap.size + 1, [{ target := .collected w.heap.size, args := #[] }], W1, { target := .fn (.func gf) lb, args := #[.func (.yield (w.heap.size + 1)) #[] #[]] }, W1, gf,
    #[.func (.yield (w.heap.size + 1)) #[] #[]] ++ lb, W1, ?_, ?_, ?_, ?_, fun _ => h1, ?_⟩
  · rw [← hW1, hrec]; exact run_enterLoop_outer _ _ _ _ _
  · simp only [resolve, hg]
    simp [go_sem]
  · intro f' hf'
    simp [Target.leads] at hf'
    subst hf'
    exact hFg
  · simp [invoke, go_sem, eg]
  · have hcall := hseq (w.heap.size + 1)
      (fun pre G W => (I pre G W ∧ ∀ b, G b → w.heap.size + 2 ≤ b) ∧ W1.heap.size ≤ W.heap.size ∧ W.heap[w.heap.size + 1]? = some (.loop (rec .ready none)) ∧ W.heap[w.heap.size]? = some (.deferred (some [])))
      (fun pre G W => ∃ c, (Ix c pre G W ∧ ∀ b, G b → w.heap.size + 2 ≤ b) ∧ W1.heap.size ≤ W.heap.size ∧ W.heap[w.heap.size + 1]? = some (.loop (rec .done (some c))) ∧ W.heap[w.heap.size]? = some (.deferred (some [])))
      W1 b1 (by omega) (by omega)
      (fun s G A B ⟨⟨hi, hG⟩, hz, hl, hd⟩ hA hab => ⟨⟨hI s G A B hi (by omega) (mine hab), hG⟩, Nat.le_trans hz hab.size, (two hab hA _ (.inr rfl)).trans hl, (two hab hA _ (.inl rfl)).trans hd⟩)
      ?_
      (fun s G A B ⟨c, ⟨hi, hG⟩, hz, hl, hd⟩ hA hab => ⟨c, ⟨hIx c s G A B hi (by omega) (mine hab), hG⟩, Nat.le_trans hz hab.size, (two hab hA _ (.inr rfl)).trans hl, (two hab hA _ (.inl rfl)).trans hd⟩)
      ⟨⟨hI _ _ _ _ h0 (Nat.le_refl _) (a1 _), fun _ h => h.elim⟩, Nat.le_refl _, rL, rD⟩
    · refine hcall.mono ?_
      rintro e W2 ⟨⟨v, rfl⟩, (⟨xs, G, hS, ⟨hi, hG⟩, hsz, hl, hd⟩ | ⟨pre, G, hSp, c, ⟨hi, hG⟩, hsz, hl, hd⟩)⟩
      · refine ⟨none, _, by have := run_endLoop (P := P) hl (by rw [hrec]; simp); rw [hrec] at this; exact this, ?_⟩
        exact hdone xs G _ hS (hI _ _ _ _ hi (by omega) (turn _ hG)) (by simp; omega) ((World.putObj_heap_other (by omega)).trans hd)
      · refine ⟨some c, _, by have := run_endLoop (P := P) hl (by rw [hrec]; simp); rw [hrec] at this; exact this, ?_⟩
        exact hstop c pre G _ hSp (hIx _ _ _ _ _ hi (by omega) (turn _ hG)) (by simp; omega) ((World.putObj_heap_other (by omega)).trans hd)
    · -- a round
      rintro pre x G W ⟨⟨hi, hG⟩, _, hl, hd⟩ hm hlen hz hGb
      have hy := run_yield (P := P) (args := encs x) hl (by rw [hrec]; exact hps x)
      rw [hrec] at hy
      refine ⟨fn, _, assign, body, hy, roundIn_of_wpIn hfn (hassign _ x W _ (by omega) fun a' U hax hbU => ?_)⟩
      have uL := (hbU.block (w.heap.size + 1) (by omega)).trans hl
      have uD := (hbU.block w.heap.size (by omega)).trans hd
      have us := hbU.size
      refine ⟨_, run_beginRound uL (by rw [hrec]), ?_⟩
      obtain ⟨V, hV⟩ : ∃ V, U.putObj (w.heap.size + 1) (.loop { rec .ready none with state := .busy }) = V := ⟨_, rfl⟩
      have vL : V.heap[w.heap.size + 1]? = some (.loop { rec .ready none with state := .busy }) := by rw [← hV]; exact World.putObj_heap_same (by omega)
      have vD : V.heap[w.heap.size]? = some (.deferred (some [])) := by rw [← hV]; exact (World.putObj_heap_other (by omega)).trans uD
      have vs : V.heap.size = U.heap.size := by rw [← hV]; simp
      have aU : Aside (fun b => b = w.heap.size + 1) U V := by rw [← hV]; exact Aside.putObj (Z := fun b => b = w.heap.size + 1) (Aside.refl _ U) (.inr rfl) _
      have aV : Aside (fun b => b = w.heap.size + 1) W V := (Aside.of_below hbU).trans aU
      have iV : I pre G V := by rw [← hV]; exact hI _ _ _ _ (hI _ _ _ _ hi (by omega) (Aside.of_below hbU)) (by omega) (turn _ hG)
      have mV : Mem x V := hMem x U V (hMb x W U hm hbU) (by omega) aU
      rw [hV]
      refine wpIn_mono (hbody _ pre x G V a' iV mV (hAx x a' U V hax (by omega) aU) hlen (by omega) (fun b hb => by have := hGb b hb; omega)) ?_
      have fin : ∀ (jump : Option Code) (W3 : World), KeepsFrom w.heap.size V W3 →
          (Instr.endRound (w.heap.size + 1) jump).run P W3 = .ok (.bool jump.isNone) (W3.putObj (w.heap.size + 1) (.loop (rec (if jump.isNone then .ready else .done) jump))) ∧
          (W3.putObj (w.heap.size + 1) (.loop (rec (if jump.isNone then .ready else .done) jump))).heap[w.heap.size + 1]? = some (.loop (rec (if jump.isNone then .ready else .done) jump)) ∧
          (W3.putObj (w.heap.size + 1) (.loop (rec (if jump.isNone then .ready else .done) jump))).heap[w.heap.size]? = some (.deferred (some [])) := fun jump W3 hk => by
        have l3 := hk.same _ _ (by omega) vL rfl
        have d3 := hk.same _ _ (by omega) vD rfl
        have hr := run_endRound (P := P) jump l3
        rw [hrec] at hr ⊢
        exact ⟨hr, World.putObj_heap_same (by have := (Array.getElem?_eq_some_iff.1 l3).1; omega), (World.putObj_heap_other (by omega)).trans d3⟩
      have gn : ∀ (W3 : World) (o : Obj) b, Gn G V W3 b → Gn G W (W3.putObj (w.heap.size + 1) o) b := fun W3 o b hb => by
        rcases hb with hb | hb
        · exact .inl hb
        · refine .inr ⟨by omega, ?_⟩
          rw [World.putObj_size]; exact hb.2
      have gW : ∀ (W3 : World) (o : Obj) b, Gn G W (W3.putObj (w.heap.size + 1) o) b → w.heap.size + 2 ≤ b := fun W3 o b hb => by
        rcases hb with hb | hb
        · exact hG b hb
        · omega
      have gG : ∀ W3 : World, ∀ b, Gn G V W3 b → w.heap.size + 2 ≤ b := fun W3 b hb => by
        rcases hb with hb | hb
        · exact hG b hb
        · omega
      rintro e a3 W3 hp
      cases e with
      | normal =>
        obtain ⟨hk, has, hi3⟩ := hp
        obtain ⟨hr, l4, d4⟩ := fin none W3 hk
        refine ⟨_, _, hr, .inl ⟨rfl, ?_, ?_⟩⟩
        · refine ((aV.wide fun k _ h => .inr (.inr h)).trans (has.wide fun k _ h => ?_)).putObj (.inr (.inr (.inr rfl))) _
          rcases h with h | h
          · exact .inl h
          · exact .inr (.inl h)
        · exact ⟨⟨hIm _ _ _ _ (hI _ _ _ _ hi3 (by have := has.size; omega) (turn _ (gG W3))) (gn W3 _), gW W3 _⟩, by have := has.size; simp; omega, l4, d4⟩
      | ret =>
        obtain ⟨hk, hs3, hi3⟩ := hp
        obtain ⟨hr, l4, d4⟩ := fin (some .ret) W3 hk
        refine ⟨_, _, hr, .inr ⟨rfl, ?_⟩⟩
        exact ⟨.ret, ⟨hIxm _ _ _ _ _ (hIx _ _ _ _ _ hi3 (by omega) (turn _ (gG W3))) (gn W3 _), gW W3 _⟩, by simp; omega, l4, d4⟩
      | exit id =>
        obtain ⟨hk, hs3, hi3⟩ := hp
        obtain ⟨hr, l4, d4⟩ := fin (some (.exit id)) W3 hk
        refine ⟨_, _, hr, .inr ⟨rfl, ?_⟩⟩
        exact ⟨.exit id, ⟨hIxm _ _ _ _ _ (hIx _ _ _ _ _ hi3 (by omega) (turn _ (gG W3))) (gn W3 _), gW W3 _⟩, by simp; omega, l4, d4⟩
      | goto t =>
        obtain ⟨hk, hs3, hi3⟩ := hp
        obtain ⟨hr, l4, d4⟩ := fin (some (.goto t)) W3 hk
        refine ⟨_, _, hr, .inr ⟨rfl, ?_⟩⟩
        exact ⟨.goto t, ⟨hIxm _ _ _ _ _ (hIx _ _ _ _ _ hi3 (by omega) (turn _ (gG W3))) (gn W3 _), gW W3 _⟩, by simp; omega, l4, d4⟩
      | panic ch => exact hp.elim
      | outgrown => exact hp.elim
end Go.Proofs.Ytbeddhamnefpiaa
