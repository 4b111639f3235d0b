/- rmap.Exit. -/
import Derived.Test.YtbeddhamnefpiaaRmX
import Derived.Test.YtbeddhamnefpiaaFree2
namespace Go.Proofs.Ytbeddhamnefpiaa
set_option linter.unusedSimpArgs false
set_option linter.unusedVariables false
open Go.RowKit Go.Maps
open Go.Shelf
attribute [local go_sem] Oper.semAt_some

theorem wpListIn_ownR {F : Fence} {nF : Nat} {α : Type} (E : Elt Try.prog α) {ops : Array Oper} {rest : List Oper} {o : Oper} {a : Act} {Q : Exit → Act → World → Prop} (hgd : o.guard = none) (s x : Operand) (t : TypeId) (ht : t = E.s)
    (ho : o.op = .call { callee := .builtin .append, args := #[s, x], argTypes := #[t, t] })
    (w : World) (base : Nat) (hbase : base ≤ w.heap.size) (A : Option Addr) (c n : Nat) (l : List α) (hn : n = l.length) (h : OwnR E w base (.slice A l.length c) l) (B : Option Addr) (d n' : Nat) (k : List α) (hn' : n' = k.length) (hk : SR E w B k) (hp : 0 < k.length) (hl : l.length + k.length ≤ 10000)
    (hs : a.eval s = .slice A n c) (hx : a.eval x = .slice B n' d)
    (hK : ∀ A' c' w', OwnR E w' base (.slice A' (l ++ k).length c') (l ++ k) → Below base w w' → w.grownBy w' (Value.ownBlock (.slice A l.length c)) → wpListIn F nF Try.prog ops Q rest (a.put o.dst (.slice A' (l ++ k).length c')) w') : wpListIn F nF Try.prog ops Q (o :: rest) a w := by
  subst hn hn' ht
  refine wpListIn_plain hgd fun K' hK' => ?_
  obtain ⟨A', c', w', hrun, h2, h3, h4⟩ := run_ownR E o.type w base hbase A c l h B d k hk hp hl
  unfold Oper.wpIn
  refine ⟨by simp [Oper.about, ho, resolve, Target.leads, Sem.run_pure], ?_⟩
  rw [Oper.semAt_plain F _ _ (by rw [ho]; intro c hc'; cases hc')]
  simp only [execOp, ho, resolve, invoke, builtin, Sem.run_bind, Sem.run_pure, Result.andThen_ok, List.map_toArray, List.map_cons, List.map_nil, hs, hx, hrun]
  exact hK' _ _ (hK A' c' w' h2 h3 h4)
theorem SetB.noCells {w : World} {K : TypeId} {B n : Nat} {Q : Lit → Prop} (h : SetB w K B n Q) : ∀ cs t fr, w.heap[B]? ≠ some (.cells cs t fr) := by
  obtain ⟨D, ⟨es, clock, hb, _⟩, _⟩ := h
  intro cs t fr e
  rw [hb] at e
  cases e
/-- The frames that a process maps. -/
def leftQ (l : List M3) (n : Int) (z : Lit) : Prop := ∃ m ∈ l, m.2.1 = n ∧ z = .int .i64 m.1
theorem keptM_snoc (l : List M3) (x : M3) (n : Int) : keptM (l ++ [x]) n = keptM l n ++ if x.2.1 = n then [] else [x] := by
  unfold keptM
  by_cases h : x.2.1 = n <;> simp [h]
theorem leftQ_snoc (l : List M3) (x : M3) (n : Int) (z : Lit) : leftQ (l ++ [x]) n z ↔ (leftQ l n z ∨ (x.2.1 = n ∧ z = .int .i64 x.1)) := by
  unfold leftQ
  constructor
  · rintro ⟨m, hm, h1, h2⟩
    rcases List.mem_append.1 hm with h | h
    · exact .inl ⟨m, h, h1, h2⟩
    · simp at h; subst h; exact .inr ⟨h1, h2⟩
  · rintro (⟨m, h, h1, h2⟩ | ⟨h1, h2⟩)
    · exact ⟨m, by simp [h], h1, h2⟩
    · exact ⟨x, by simp, h1, h2⟩
def ExtPost (r : List M3 × List Int × Int) (w : World) (e : Ending) (w' : World) : Prop :=
  ∃ A c A2 c2, e = .returned (.tuple #[.slice A r.1.length c, .slice A2 r.2.1.length c2, .int .i64 r.2.2]) ∧ CR mapE w' A c r.1 ∧ Sl w' (.int .i64) A2 r.2.1 ∧ Below w.heap.size w w'
/-- The same; and what is handed back lies in memory that was not there before. -/
def ExtPost2 (r : List M3 × List Int × Int) (w : World) (e : Ending) (w' : World) : Prop :=
  ∃ A c A2 c2, e = .returned (.tuple #[.slice A r.1.length c, .slice A2 r.2.1.length c2, .int .i64 r.2.2]) ∧ CR mapE w' A c r.1 ∧ Sl w' (.int .i64) A2 r.2.1 ∧ Below w.heap.size w w' ∧ (∀ g, A.map (·.block) = some g → w.heap.size ≤ g) ∧ (∀ g, A2.map (·.block) = some g → w.heap.size ≤ g)
theorem ExtPost2.post {r : List M3 × List Int × Int} {w w' : World} {e : Ending} (h : ExtPost2 r w e w') : ExtPost r w e w' := by
  obtain ⟨A, c, A2, c2, h1, h2, h3, h4, _⟩ := h
  exact ⟨A, c, A2, c2, h1, h2, h3, h4⟩
theorem extM_cases (l : List M3) (n : Int) : (∃ z, z ≠ 0 ∧ sndM l (okN n) = z ∧ extM l n = ([], [], z)) ∨ (sndM l (okN n) = 0 ∧ OkL l ∧ okN n = true ∧ extM l n = (keptM l n, freedM l n, 0)) := by
  by_cases z0 : sndM l (okN n) = 0
  · obtain ⟨hc, hok⟩ := sndM_zero z0
    exact .inr ⟨z0, chkM_ok hc, hok, by unfold extM; rw [if_neg (by simpa using hc), if_pos hok]⟩
  · refine .inl ⟨_, z0, rfl, ?_⟩
    unfold extM
    rcases sndM_ne rfl z0 with ⟨h1, h2⟩ | ⟨h1, h2, h3⟩
    · rw [if_pos h1, h2]
    · rw [h3, if_neg (by simpa using h1), h2]; rfl

theorem cntM_pos {l : List M3} {f : Int} : 0 < cntM l f ↔ ∃ m ∈ l, m.1 = f := by
  unfold cntM
  constructor
  · intro h
    have h2 : 0 < (l.filter fun m => decide (m.1 = f)).length := by omega
    obtain ⟨m, hm⟩ := List.exists_mem_of_length_pos h2
    obtain ⟨h3, h4⟩ := List.mem_filter.1 hm
    exact ⟨m, h3, by simpa using h4⟩
  · rintro ⟨m, hm, e⟩
    have : 0 < (l.filter fun m => decide (m.1 = f)).length := List.length_pos_of_mem (List.mem_filter.2 ⟨hm, by simpa using e⟩)
    omega
theorem cntM_zero' {l : List M3} {f : Int} : cntM l f = 0 ↔ ¬ ∃ m ∈ l, m.1 = f := by
  rw [← cntM_pos]
  have := (cntM_le l f).1
  omega
theorem freedM_mem' {l : List M3} {n : Int} (x : Int) : x ∈ freedM l n ↔ (0 ≤ x ∧ x < 256) ∧ 0 < cntM l x ∧ cntM (keptM l n) x = 0 := by
  unfold freedM
  simp only [List.mem_filter, List.mem_map, List.mem_range, Bool.and_eq_true, decide_eq_true_eq]
  constructor
  · rintro ⟨⟨i, hi, rfl⟩, h1, h2⟩; exact ⟨by omega, h1, h2⟩
  · rintro ⟨h, h1, h2⟩; exact ⟨⟨x.toNat, by omega, by omega⟩, h1, h2⟩
theorem freedM_mem {l : List M3} {n : Int} (ok : ∀ m ∈ l, okM m = true) (x : Int) : x ∈ freedM l n ↔ (leftQ l n (.int .i64 x) ∧ ¬ ∃ m ∈ keptM l n, (Lit.int .i64 x) = .int .i64 m.1) := by
  rw [freedM_mem', cntM_pos, cntM_zero']
  unfold leftQ
  simp only [Lit.int.injEq, true_and]
  constructor
  · rintro ⟨_, ⟨m, hm, e⟩, h2⟩
    refine ⟨⟨m, hm, ?_, e.symm⟩, fun ⟨y, hy, e2⟩ => h2 ⟨y, hy, e2.symm⟩⟩
    by_cases h3 : m.2.1 = n
    · exact h3
    · exact absurd ⟨m, List.mem_filter.2 ⟨hm, by simpa using h3⟩, e⟩ h2
  · rintro ⟨⟨m, hm, e1, e2⟩, h2⟩
    have h3 := (okM_iff m).1 (ok m hm)
    exact ⟨by omega, ⟨m, hm, e2.symm⟩, fun ⟨y, hy, e3⟩ => h2 ⟨y, hy, e3.symm⟩⟩
theorem freedM_asc (l : List M3) (n : Int) : (freedM l n).Pairwise (· < ·) := by
  unfold freedM
  refine List.Pairwise.filter _ ?_
  rw [List.pairwise_map]
  exact List.pairwise_lt_range.imp (fun {a b} h => by omega)
theorem freedM_len (l : List M3) (n : Int) : (freedM l n).length ≤ 256 := by
  unfold freedM
  refine Nat.le_trans (List.length_filter_le _ _) ?_
  simp

/-- What the rounds keep: the slice of the freed frames. -/
def FreedI (Bf : Nat) (W : World) (pre : List Int) (G : Nat → Prop) (V : World) : Prop :=
  (∃ A c, Blk V Bf 35 #[.slice A pre.length c] ∧ Own V W.heap.size 3 (.int .i64) (.slice A pre.length c) pre ∧ ∀ q, A.map (·.block) = some q → G q) ∧ Aside (fun b => b = Bf) W V
theorem own_move {base : Nat} {V V' : World} {A : Option Addr} {n c : Nat} {xs : List Int} (h : Own V base 3 (.int .i64) (.slice A n c) xs) (hk : ∀ q, A.map (·.block) = some q → q < V.heap.size → V'.heap[q]? = V.heap[q]?) : Own V' base 3 (.int .i64) (.slice A n c) xs := by
  obtain ⟨hl, ⟨e, h0⟩ | ⟨g, cap, cur, e, h1, h2, h3⟩⟩ := h
  · exact ⟨hl, .inl ⟨e, h0⟩⟩
  · refine ⟨hl, .inr ⟨g, cap, cur, e, h1, (hk g ?_ (Array.getElem?_eq_some_iff.1 h2).1).trans h2, h3⟩⟩
    injection e with e1
    subst e1
    rfl
section
variable {Bf : Nat} {W V V1 V2 : World} {pre : List Int} {G G' : Nat → Prop}
theorem FreedI.aside (h : FreedI Bf W pre G V1) (hB : Bf < W.heap.size) (hs : W.heap.size ≤ V1.heap.size) (ha : Aside (fun b => ¬ Theirs W.heap.size (fun _ => False) G b) V1 V2) : FreedI Bf W pre G V2 := by
  obtain ⟨⟨A, c, h1, h2, h3⟩, h4⟩ := h
  refine ⟨⟨A, c, ha.blk h1 (fun hn => hn (.inr ⟨hB, fun h => h⟩)), own_move h2 (fun q hq hl => ha.block q hl (fun hn => hn (.inl (h3 q hq)))), h3⟩, ?_⟩
  exact ⟨ha.os.trans h4.os, ha.tape.trans h4.tape, ha.output.trans h4.output, Nat.le_trans h4.size ha.size, fun k hk hz => (ha.block k (by omega) (fun hn => hn (.inr ⟨hk, fun h => h⟩))).trans (h4.block k hk hz)⟩
theorem FreedI.gmono (h : FreedI Bf W pre G V) (hG : ∀ b, G b → G' b) : FreedI Bf W pre G' V := by
  obtain ⟨⟨A, c, h1, h2, h3⟩, h4⟩ := h
  exact ⟨⟨A, c, h1, h2, fun q hq => hG q (h3 q hq)⟩, h4⟩
theorem own_ne {base : Nat} {A : Option Addr} {n c : Nat} {xs : List Int} (h : Own V base 3 (.int .i64) (.slice A n c) xs) (hB : Bf < base) : some Bf ≠ Value.ownBlock (.slice A n c) := by
  rw [ownBlock_slice']
  intro e
  have := h.blockI e.symm
  omega
theorem freed_blk {A : Option Addr} {c : Nat} {o : Obj} {w5 : World} (kf : Blk V Bf 35 #[.slice A pre.length c]) (ho : Own V W.heap.size 3 (.int .i64) (.slice A pre.length c) pre) (hg : (V.alloc o).grownBy w5 (Value.ownBlock (.slice A pre.length c))) (hB : Bf < W.heap.size) :
    Blk w5 Bf 35 #[.slice A pre.length c] := (hg.block Bf (by have := kf.lt; simp; omega) (own_ne ho hB)).trans (kf.alloc_ o)
theorem freed_keep {A : Option Addr} {c : Nat} {o : Obj} {w5 : World} (kf : Blk V Bf 35 #[.slice A pre.length c]) (ho : Own V W.heap.size 3 (.int .i64) (.slice A pre.length c) pre) (hg : (V.alloc o).grownBy w5 (Value.ownBlock (.slice A pre.length c))) (hB : Bf < W.heap.size) :
    w5.cell? ⟨Bf, 0, none⟩ = some (.slice A pre.length c) := by simpa using (freed_blk kf ho hg hB).cell_ 0
theorem freed_frozen {A : Option Addr} {c : Nat} {o : Obj} {w5 : World} (kf : Blk V Bf 35 #[.slice A pre.length c]) (ho : Own V W.heap.size 3 (.int .i64) (.slice A pre.length c) pre) (hg : (V.alloc o).grownBy w5 (Value.ownBlock (.slice A pre.length c))) (hB : Bf < W.heap.size) :
    w5.frozen? ⟨Bf, 0, none⟩ = false := (freed_blk kf ho hg hB).frozen_ 0
theorem freed_step {A : Option Addr} {c : Nat} {x : Int} {o : Obj} {w5 : World} {v' : Value} (hB : Bf < W.heap.size) (kf : Blk V Bf 35 #[.slice A pre.length c]) (ho : Own V W.heap.size 3 (.int .i64) (.slice A pre.length c) pre) (hG : ∀ q, A.map (·.block) = some q → G q) (has : Aside (fun b => b = Bf) W V)
    (hsz : W.heap.size + 2 ≤ V.heap.size) (hg : (V.alloc o).grownBy w5 (Value.ownBlock (.slice A pre.length c))) (hown : w5.ownsRow W.heap.size 3 1 v' (pre.length + 1) (pre.map (.int .i64) ++ [.int .i64 x])) (hat : v'.ownBlock = (Value.slice A pre.length c).ownBlock ∨ v'.ownBlock = some (V.alloc o).heap.size) :
    KeepsFrom W.heap.size V (w5.setCell ⟨Bf, 0, none⟩ v') ∧ Aside (fun b => G b ∨ b = Bf) V (w5.setCell ⟨Bf, 0, none⟩ v') ∧ FreedI Bf W (pre ++ [x]) (Gn G V (w5.setCell ⟨Bf, 0, none⟩ v')) (w5.setCell ⟨Bf, 0, none⟩ v') := by
  have k5 := freed_blk kf ho hg hB
  have hz5 := hg.size
  simp at hz5
  have hO : Own w5 W.heap.size 3 (.int .i64) v' (pre ++ [x]) := by
    show World.ownsRow _ _ _ _ _ _ _
    simpa using hown
  obtain ⟨A', c', rfl, _⟩ := hO.sl
  have hsc : (w5.setCell ⟨Bf, 0, none⟩ (.slice A' (pre ++ [x]).length c')).heap.size = w5.heap.size := by simp [World.setCell]
  have hrow : ∀ r, Value.ownBlock (.slice A pre.length c) = some r → ∃ cs t fr, V.heap[r]? = some (.cells cs t fr) := fun r e => by
    obtain ⟨_, ⟨e0, _⟩ | ⟨g, cap, cur, e0, _, h2, _⟩⟩ := ho
    · injection e0 with e1; subst e1; cases e
    · injection e0 with e1; subst e1; simp [Value.ownBlock] at e; subst e; exact ⟨_, _, _, h2⟩
  refine ⟨⟨by rw [hsc]; omega, fun k ob _ hk hc => ?_⟩, ⟨?_, ?_, ?_, by rw [hsc]; omega, fun k hk hn => ?_⟩, ⟨⟨A', c', ?_, own_move hO (fun q hq hl => Below.heap_setCell _ _ _ _ ?_), fun q hq => ?_⟩, ⟨?_, ?_, ?_, by rw [hsc]; have := has.size; omega, fun k hk hn => ?_⟩⟩⟩
  · have hkl := (Array.getElem?_eq_some_iff.1 hk).1
    have hne : k ≠ Bf := fun e => by
      subst e
      rw [show V.heap[k]? = _ from kf] at hk
      cases hk
      cases hc
    refine (Below.heap_setCell w5 ⟨Bf, 0, none⟩ _ k hne).trans ((hg.block k (by simp; omega) (fun e => ?_)).trans ((Below.heap_alloc V o k hkl).trans hk))
    obtain ⟨cs, t, fr, h2⟩ := hrow k e.symm
    rw [h2] at hk
    cases hk
    cases hc
  · exact hg.os
  · exact hg.tape
  · exact hg.output
  · have hne : k ≠ Bf := fun e => hn (.inr e)
    refine (Below.heap_setCell w5 ⟨Bf, 0, none⟩ _ k hne).trans ((hg.block k (by simp; omega) (fun e => hn (.inl (hG k ?_)))).trans (Below.heap_alloc V o k hk))
    rw [ownBlock_slice'] at e
    exact e.symm
  · simpa using k5.set_ 0 (.slice A' (pre ++ [x]).length c')
  · have := hO.blockI hq
    show q ≠ Bf
    omega
  · rw [ownBlock_slice', ownBlock_slice'] at hat
    rcases hat with h | h
    · rw [h] at hq; exact .inl (hG q hq)
    · rw [hq] at h
      injection h with h
      subst h
      have hl : (V.alloc o).heap.size < w5.heap.size := by
        obtain ⟨_, ⟨e0, _⟩ | ⟨g, cap, cur, e0, _, h2, _⟩⟩ := hO
        · injection e0 with e1; subst e1; cases hq
        · injection e0 with e1; subst e1; simp at hq; rw [World.size_alloc, ← hq]; exact (Array.getElem?_eq_some_iff.1 h2).1
      refine .inr ⟨by simp, by rw [hsc]; exact hl⟩
  · exact hg.os.trans has.os
  · exact hg.tape.trans has.tape
  · exact hg.output.trans has.output
  · refine (Below.heap_setCell w5 ⟨Bf, 0, none⟩ _ k hn).trans ((hg.block k (by simp; omega) (own_ne ho hk)).trans ((Below.heap_alloc V o k (by have := has.size; omega)).trans (has.block k hk hn)))
end

theorem OwnR.blockR {P : Program} {α : Type} {E : Elt P α} {w : World} {base n c q : Nat} {A : Option Addr} {l : List α} (h : OwnR E w base (.slice A n c) l) (hq : A.map (·.block) = some q) : base ≤ q := by
  obtain ⟨_, ⟨e, _⟩ | ⟨g, cap, cur, e, hg, _⟩⟩ := h
  · injection e with e1 e2 e3; subst e1; cases hq
  · injection e with e1 e2 e3; subst e1; simp at hq; omega
set_option maxRecDepth 100000 in
set_option maxHeartbeats 4000000 in
theorem Exit_good (A : Option Addr) (c : Nat) (l : List M3) (n : Int) (w : World) (ha : SR mapE w A l) (la : l.length ≤ 1000) (hz : sndM l true = 0) (ok : OkL l) (d1 : decide (1 ≤ n ∧ n ≤ 8) = true) (hr : extM l n = (keptM l n, freedM l n, 0)) :
    CallsIn Fence.wide 9 Try.prog 23 #[.slice A l.length c, .int .i64 n] w (ExtPost2 (extM l n) w) := by
  have HS := Lib.hid ha; have HR := Lib.hid hr; have HZ := Lib.hid hz
  clear ha hr hz
  refine callsIn_of_wp_marks Try.func23 rfl trivial ?_ rfl
  simp only [Try.ntmps23, List.size_toArray, List.length_cons, List.length_nil, Nat.reduceAdd, Nat.reduceSub, Array.replicate_succ, Array.replicate_zero, List.push_toArray, List.append_toArray, List.nil_append, List.cons_append]
  have hmm := @run_makeMap Try.prog
  gi_wp2_with fail
  refine ⟨trivial, (callsIn_wide.2 (isProc_b _ _ d1 _)).mono ?_⟩
  rintro e w' ⟨rfl, rfl⟩
  gi_wp2_with fail
  refine ⟨trivial, (callsIn_wide.2 (sound_any A c l _ _ HS.out la HZ.out)).mono ?_⟩
  rintro e w1 ⟨rfl, hb1⟩
  have z1 := hb1.size
  gi_wp2_with fail
  gi_loopw [8, 26] (fun v i wr => ∃ (k : Nat) (ys : List M3) (A2 : Option Addr) (c2 : Nat), k ≤ l.length ∧ i = .int .i64 k ∧ v = .slice A2 ys.length c2 ∧ Hid (keptM (l.take k) n = ys) ∧ ys.length ≤ k ∧ Hid (OwnR mapE wr (w1.heap.size + 1) (.slice A2 ys.length c2) ys) ∧
      Hid (SetB wr 3 w1.heap.size k (leftQ (l.take k) n)) ∧ Hid (Below w1.heap.size w1 wr) ∧ w1.heap.size + 1 ≤ wr.heap.size) (fun _ i _ => l.length - (Go.RowKit.intOf i).toNat)
  case atStart => exact ⟨0, [], none, 0, by omega, rfl, rfl, by show _ = _; simp [keptM], by simp, OwnR.nil, (SetB.new_ w1 _).congr (fun z => by simp [leftQ]), by show Below _ _ _; exact (by repeat' (first | with_reducible exact Below.refl _ _ | with_reducible assumption | with_reducible apply Below.drew | with_reducible apply below_drewN | with_reducible apply Below.alloc | with_reducible apply Below.setCell | (with_reducible refine Below.trans ?_ (Below.mono (by assumption) ?_)) | (simp; done) | (simp; omega) | omega | with_reducible apply le_size_alloc | with_reducible apply le_size_drewN | with_reducible apply le_size_drew | with_reducible apply le_size_setCell | refine Nat.le_trans ?_ (Below.size (by assumption)))), by simp⟩
  case round =>
    obtain ⟨k, ys, A2, c2, hk, rfl, rfl, HY, hyl, HO, HL, HB, hzw⟩ := hrel
    by_cases hlt : k < l.length
    · obtain ⟨b, off, x, rfl, hbl, hx, q0, q1, q2⟩ := map_at ((HS.out.ext hb1).ext HB.out) hlt
      have i1 : (k : Int) < l.length := by omega
      have hokx := okM_iff x |>.1 (ok.ok x (List.mem_of_getElem? hx))
      have HN : Hid (keptM (l.take (k + 1)) n = ys ++ if x.2.1 = n then [] else [x]) := by show _ = _; rw [take_snoc hx, keptM_snoc, HY.out]
      have HQ : Hid (∀ z, leftQ (l.take (k + 1)) n z ↔ (leftQ (l.take k) n z ∨ (x.2.1 = n ∧ z = .int .i64 x.1))) := by show ∀ z, _; intro z; rw [take_snoc hx, leftQ_snoc]
      clear hx HY
      have hkl : keyOf Try.prog 3 (.int .i64 x.1) = some (.int .i64 x.1) := keyOf_int_mk Try.underlying3 (WalkArith.wf_i64 (by omega))
      clear hokx
      have BA : ∀ o, Below wr.heap.size wr (wr.alloc o) := fun o => (Below.refl _ wr).alloc (Nat.le_refl _) _
      by_cases e : x.2.1 = n
      · have HM : Hid (keptM (l.take (k + 1)) n = ys) := by show _ = _; rw [HN.out, if_pos e]; simp
        have HQ2 : Hid (∀ z, (z = .int .i64 x.1 ∨ leftQ (l.take k) n z) ↔ leftQ (l.take (k + 1)) n z) := by show ∀ z, _; intro z; rw [HQ.out z]; constructor; (rintro (h | h); exact .inr ⟨e, h⟩; exact .inl h); (rintro (h | ⟨_, h⟩); exact .inr h; exact .inl h)
        have eb : (x.2.1 == n) = true := by simpa using e
        clear e HN HQ
        gi_wp2_with (gi_at_mapUpdate; refine wpListIn_setPut _ rfl _ _ _ _ rfl 3 intKeyed Try.underlying75 w1.heap.size k _ rfl (HL.out.below_ (BA _) (by omega)) (by unfold maxLen; omega) _ _ rfl rfl hkl ?_; intro w5 hs5 hg5)
        have z5 := hg5.size
        simp at z5
        go_roundw
        case rel =>
          refine ⟨k + 1, ys, A2, c2, by omega, by go_num, rfl, HM.out, by omega, ?_, hs5.congr HQ2.out, ?_, by omega⟩
          · exact (HO.out.ext (BA _)).grownB hg5 (fun r e => by cases e; exact (HL.out.below_ (BA _) (by omega)).noCells)
          · exact (HB.out.trans ((BA _).mono (by omega))).grown hg5 (by simp; omega) (fun j hj => by cases hj; exact Nat.le_refl _)
        case measure => simp [Go.RowKit.intOf]; omega
      · have HM : Hid (keptM (l.take (k + 1)) n = ys ++ [x]) := by show _ = _; rw [HN.out, if_neg e]
        have HQ2 : Hid (∀ z, leftQ (l.take k) n z ↔ leftQ (l.take (k + 1)) n z) := by show ∀ z, _; intro z; rw [HQ.out z]; constructor; (intro h; exact .inl h); (rintro (h | ⟨h, _⟩); exact h; exact absurd h e)
        have eb : (x.2.1 == n) = false := by simpa using e
        clear e HN HQ
        have BB : ∀ o o', Below wr.heap.size wr ((wr.alloc o).alloc o') := fun o o' => (BA o).alloc (by simp) o'
        gi_wp2_with (gi_at_builtin; refine wpListIn_ownR mapE rfl (.tmp 38) (.tmp 40) _ rfl rfl _ (w1.heap.size + 1) (by simp; omega) A2 c2 _ ys rfl (HO.out.ext (BB _ _)) (some ⟨wr.heap.size + 1, 0, none⟩) 1 1 [x] rfl (SR.of_blk (E := mapE) (l := [x]) (t := 59) (Blk.new_ (by simp) rfl)) (by simp) (by simp; omega) rfl rfl ?_; intro A5 c5 w5 hO5 hb5 hg5)
        have z5 := hg5.size
        simp at z5
        go_roundw
        case rel =>
          refine ⟨k + 1, ys ++ [x], A5, c5, by omega, by go_num, by simp, HM.out, by simp; omega, hO5, ?_, ?_, by omega⟩
          · have h1 := HL.out.below_ (BB (.cells #[.int .i64 x.1, .int .i64 x.2.1, .int .i64 x.2.2] 59) (.cells #[.int .i64 x.1, .int .i64 x.2.1, .int .i64 x.2.2] 59)) (by omega)
            exact ((h1.kept hg5 ((HO.out.ext (BB _ _)).cellsB h1.noCells)).congr HQ2.out).mono (by omega)
          · exact (HB.out.trans ((BB _ _).mono (by omega))).trans (hb5.mono (by omega))
        case measure => simp [Go.RowKit.intOf]; omega
    · have hd : l.take k = l := List.take_of_length_le (by omega)
      have h1 := HY.out
      have h2 := HL.out
      rw [hd] at h1 h2
      have HY2 := Lib.hid h1
      have HL2 := Lib.hid (h2.mono hk)
      have HOK : Hid (∀ m ∈ ys, okM m = true) := by show ∀ m ∈ _, _; rw [← h1]; exact fun m hm => ok.ok m (List.mem_filter.1 hm).1
      have hyl2 : ys.length ≤ l.length := by omega
      clear hd h1 h2 HY HL
      gi_wp2_with fail
      gi_loopw [45] (fun i wz => ∃ k : Nat, k ≤ ys.length ∧ i = .int .i64 k ∧ Hid (OwnR mapE wz (w1.heap.size + 1) (.slice A2 ys.length c2) ys) ∧
        Hid (SetB wz 3 w1.heap.size l.length (fun z => leftQ l n z ∧ ¬ ∃ m ∈ ys.take k, z = .int .i64 m.1)) ∧ Hid (Below w1.heap.size w1 wz) ∧ w1.heap.size + 1 ≤ wz.heap.size) (fun i _ => ys.length - (Go.RowKit.intOf i).toNat)
      case atStart => exact ⟨0, by omega, rfl, HO.out, HL2.out.congr (fun z => by simp), HB.out, hzw⟩
      case round =>
        obtain ⟨j, hj, rfl, HO2, HM, HB2, hzz⟩ := hrel
        by_cases hjt : j < ys.length
        · obtain ⟨b, off, x, e0, hbl, hx, q0, q1, q2⟩ := map_at HO2.out.sr.2 hjt
          obtain ⟨rfl⟩ := e0
          have j1 : (j : Int) < ys.length := by omega
          have hokx := okM_iff x |>.1 (HOK.out x (List.mem_of_getElem? hx))
          have HQ : Hid (∀ z, ((leftQ l n z ∧ ¬ ∃ m ∈ ys.take j, z = .int .i64 m.1) ∧ z ≠ .int .i64 x.1) ↔ (leftQ l n z ∧ ¬ ∃ m ∈ ys.take (j + 1), z = .int .i64 m.1)) := by
            show ∀ z, _
            intro z
            rw [take_snoc hx]
            constructor
            · rintro ⟨⟨h1, h2⟩, h3⟩
              refine ⟨h1, ?_⟩
              rintro ⟨m, hm, e⟩
              rcases List.mem_append.1 hm with h | h
              · exact h2 ⟨m, h, e⟩
              · simp at h; subst h; exact h3 e
            · rintro ⟨h1, h2⟩
              exact ⟨⟨h1, fun ⟨m, hm, e⟩ => h2 ⟨m, by simp [hm], e⟩⟩, fun e => h2 ⟨x, by simp, e⟩⟩
          have hkl : keyOf Try.prog 3 (.int .i64 x.1) = some (.int .i64 x.1) := keyOf_int_mk Try.underlying3 (WalkArith.wf_i64 (by omega))
          clear hokx hx
          have BA : ∀ o, Below wr.heap.size wr (wr.alloc o) := fun o => (Below.refl _ wr).alloc (Nat.le_refl _) _
          gi_wp2_with (gi_at_delete; refine wpListIn_setDel _ rfl _ _ _ _ rfl intKeyed Try.underlying75 w1.heap.size l.length _ rfl (HM.out.below_ (BA _) (by omega)) _ _ rfl hkl ?_; intro w5 hs5 hg5)
          have z5 := hg5.size
          simp at z5
          go_roundw
          case rel =>
            refine ⟨j + 1, by omega, by go_num, ?_, hs5.congr HQ.out, ?_, by omega⟩
            · exact (HO2.out.ext (BA _)).grownB hg5 (fun r e => by cases e; exact (HM.out.below_ (BA _) (by omega)).noCells)
            · exact (HB2.out.trans ((BA _).mono (by omega))).grown hg5 (by simp; omega) (fun j hj => by cases hj; exact Nat.le_refl _)
          case measure => simp [Go.RowKit.intOf]; omega
        · have hd : ys.take j = ys := List.take_of_length_le (by omega)
          have h2 := HM.out
          rw [hd] at h2
          have HM2 := Lib.hid h2
          clear hd h2 HM
          gi_wp2_with fail
          obtain ⟨V0, hV0⟩ : ∃ V0, wr.alloc (.cells #[.slice none 0 0] 35) = V0 := ⟨_, rfl⟩
          have kF0 : Blk V0 wr.heap.size 35 #[.slice none 0 0] := by rw [← hV0]; exact Blk.new_ rfl rfl
          have BV0 : Below wr.heap.size wr V0 := by rw [← hV0]; exact (Below.refl _ wr).alloc (Nat.le_refl _) _
          have sV0 : V0.heap.size = wr.heap.size + 1 := by rw [← hV0]; simp
          rw [hV0]
          clear hV0
          refine ⟨trivial, (callsIn_wide.2 (sorted_any (some w1.heap.size) V0)).mono ?_⟩
          rintro e W ⟨rfl, hW⟩
          have sW : W.heap.size = V0.heap.size + 1 := by rw [hW]; simp
          have BW : Below V0.heap.size V0 W := by rw [hW]; exact (Below.refl _ _).alloc (Nat.le_refl _) _
          have kb : Blk W V0.heap.size 75 #[.map (some w1.heap.size)] := by rw [hW]; exact Blk.new_ rfl rfl
          have kF : Blk W wr.heap.size 35 #[.slice none 0 0] := kF0.below_ BW (by omega)
          clear hW
          have BwrW : Below wr.heap.size wr W := BV0.trans (BW.mono (by omega))
          obtain ⟨D, hown, hq, hv⟩ := HM2.out.below_ BwrW (by omega)
          gi_wp2_with fail
          have hkeys : keysS D = freedM l n := keysS_eq hown (freedM_asc l n) (fun x => by
            rw [hq, ← HY2.out]
            exact freedM_mem ok.ok x)
          have hlk : (keysS D).length ≤ 256 := by rw [hkeys]; exact freedM_len l n
          have HKY := Lib.hid hkeys
          clear hkeys hq hv
          refine wpIn_rangeG rfl (by omega) (gf := 62) (lb := #[.pointer (some ⟨wr.heap.size + 1, 0, none⟩)]) rfl trivial (enters_of Try.func62 (by kernel_rfl) rfl)
            (sorted1_in 8 (by omega) (wr.heap.size + 1) w1.heap.size l.length D (fun b => b = wr.heap.size) W (by rw [← sV0]; exact kb) hown (by omega) (fun b hb => by omega))
            (fun _ => rfl) (fun b hb => hb.elim) (fun _ _ _ _ _ _ => trivial)
            (fun pre G V => FreedI wr.heap.size W pre G V) (fun _ _ _ _ => False)
            (fun pre G V1 V2 h hs ha => h.aside (by omega) hs ha) (fun _ _ _ _ _ h _ _ => h.elim)
            (fun _ _ _ _ h hG => h.gmono hG) (fun _ _ _ _ _ h _ => h.elim)
            ⟨⟨none, 0, kF, World.ownsRow_nil _ _ _ _, fun q hq => by cases hq⟩, Aside.refl _ _⟩
            (fun x a' V => a' = { tmps := #[.slice A l.length c, .int .i64 n, undef, undef, .slice none 0 0, .slice none 0 0, .int .i64 0, .int .i64 0, .slice A2 ys.length c2, .map (some w1.heap.size), undef, u11, undef, u13, .pointer (some ⟨wr.heap.size, 0, none⟩), .int .i64 x, .slice A l.length c, .int .i64 n, .bool true, .int .i64 0, .int .i64 0, .bool false, undef, .map (some w1.heap.size), .slice A l.length c, .int .i64 l.length, .int .i64 k, .bool false, u28, u29, u30, u31, u32, u33, u34, u35, u36, u37, u38, u39, u40, u41, u42, .slice A2 ys.length c2, .int .i64 ys.length, .int .i64 j, .bool false, u47, u48, u49, u50, u51, u52, .map (some w1.heap.size), .func (.func 62) #[] #[.pointer (some ⟨wr.heap.size + 1, 0, none⟩)], .int .i64 x, undef, undef, undef, undef, undef, undef], defers := [] })
            (fun x a' V1 V2 h _ _ => h) (fun _ _ _ _ _ => trivial) ?assign ?body ?done ?stop
          case assign =>
            intro lp x V K hV hK
            gi_wp2
            exact hK _ _ rfl (Below.refl _ _)
          case body =>
            rintro lp pre x G V a' ⟨⟨A5, c5, kf, ho, hG⟩, has⟩ _ rfl hlen hsz hGb
            obtain ⟨i0, hi, hz0, hz1, hz2⟩ := info_parts intInfo
            have p0 : V.cell? ⟨wr.heap.size, 0, none⟩ = some (.slice A5 pre.length c5) := by simpa using kf.cell_ 0
            have hfl : wr.heap.size < V.heap.size := kf.lt
            have ho' : ∀ o, (V.alloc o).ownsRow W.heap.size 3 1 (.slice A5 pre.length c5) pre.length (pre.map (.int .i64)) := fun o => ho.alloc o
            have HF := Lib.hid kf
            gi_wp2_with (gi_at_builtin; refine wpListIn_append_own_at _ rfl _ _ 35 rfl W.heap.size 3 i0 (.int .i64 0) 1 8 Try.underlying35 hi hz0 hz1 hz2 rfl (by decide) _ _ _ rfl (ho' _) ⟨V.heap.size, 0, none⟩ 1 1 [.int .i64 x] rfl rfl (cell_one_new _ _ _) (by simp [Value.oneCell']) (by unfold maxLen; omega) (by omega) (by simp; omega) ?_; intro v' w5 hown5 hg5 _ hat5; obtain ⟨g', cap', rfl⟩ := ownsRow_succ hown5; have q0 : w5.cell? ⟨wr.heap.size, 0, none⟩ = some (.slice A5 pre.length c5) := freed_keep HF.out ho hg5 (by omega); have qf : w5.frozen? ⟨wr.heap.size, 0, none⟩ = false := freed_frozen HF.out ho hg5 (by omega))
            exact freed_step (by omega) HF.out ho hG has hsz hg5 hown5 hat5
          case done =>
            rintro xs G V rfl ⟨⟨A5, c5, kf, ho, hG⟩, has⟩ hsz hK
            have HK := Lib.hid hK
            obtain ⟨xs, hxs⟩ : ∃ xs, keysS D = xs := ⟨_, rfl⟩
            rw [hxs] at kf ho
            have HXS : Hid (xs = freedM l n) := by show _ = _; rw [← hxs]; exact HKY.out
            have p0 : V.cell? ⟨wr.heap.size, 0, none⟩ = some (.slice A5 xs.length c5) := by simpa using kf.cell_ 0
            have FIN : Hid (ExtPost2 (extM l n) w (.returned (.tuple #[.slice A2 ys.length c2, .slice A5 xs.length c5, .int .i64 0])) (V.drew.putObj W.heap.size (.deferred none))) := by
              show ExtPost2 _ _ _ _
              unfold ExtPost2
              rw [HR.out, HY2.out, ← HXS.out]
              have hb2 : HO2.out.sr.1 = HO2.out.sr.1 := rfl
              clear hb2
              have zz : W.heap.size ≤ V.heap.size := has.size
              have hd : ∀ k, k ≠ W.heap.size → (V.drew.putObj W.heap.size (.deferred none)).heap[k]? = V.heap[k]? := fun k hk => World.putObj_heap_other hk
              have hOW : OwnR mapE W (w1.heap.size + 1) (.slice A2 ys.length c2) ys := HO2.out.ext BwrW
              have hFb : ∀ q, A2.map (·.block) = some q → q < wr.heap.size ∨ ys = [] := fun q hq => by
                rcases Nat.eq_zero_or_pos ys.length with h0 | hp
                · exact .inr (List.eq_nil_of_length_eq_zero h0)
                · obtain ⟨b, off, e, hb, _⟩ := HO2.out.sr.2 (SR.len_pos hp)
                  subst e
                  simp at hq
                  exact .inl (by omega)
              have zF1 : w.heap.size ≤ w1.heap.size + 1 := by omega
              have zF2 : w.heap.size ≤ W.heap.size := by have := BwrW.size; omega
              refine ⟨A2, c2, A5, c5, rfl, ⟨?_, (CanR.cr (.inr HO2.out)).2⟩, ?_, ?_, fun g hg => Nat.le_trans zF1 (HO2.out.blockR hg), fun g hg => Nat.le_trans zF2 (Own.blockI ho hg)⟩
              · rcases List.eq_nil_or_concat ys with e | ⟨_, _, e⟩
                · have e2 : ∀ U, SR mapE U A2 ys := fun U => by rw [e]; exact SR.nil
                  exact e2 _
                · obtain ⟨b, off, e3, hb, hcl⟩ := HO2.out.sr.2 (SR.len_pos (by rw [e]; simp))
                  refine fun _ => ⟨b, off, e3, by simp; omega, fun q u hu => ?_⟩
                  have h1 : W.cell? ⟨b, off + q, none⟩ = some u := cell_keep BwrW (hcl q u hu) hb
                  have h2 : V.cell? ⟨b, off + q, none⟩ = some u := has.cell h1 (by show ¬ b = wr.heap.size; omega)
                  unfold World.cell? at h2 ⊢
                  rw [hd b (by omega)]
                  exact h2
              · obtain ⟨A6, c6, e6, hsl6⟩ := (own_move (V' := V.drew.putObj W.heap.size (.deferred none)) ho (fun q hq hl => hd q (by
                  have hK2 := HK.out
                  obtain ⟨_, ⟨e0, _⟩ | ⟨g, cap, cur, e0, _, h2, _⟩⟩ := ho
                  · injection e0 with e1; subst e1; cases hq
                  · injection e0 with e1; subst e1; simp at hq; subst hq; rintro rfl; rw [hK2] at h2; cases h2))).sl
                injection e6 with e7 e8 e9
                subst e7
                exact hsl6
              · have h1 : Below w.heap.size w W := hb1.trans ((HB2.out.trans (BwrW.mono (by omega))).mono z1)
                have h2 : Below w.heap.size W V := has.below (by omega) (fun k hk => by show ¬ k = wr.heap.size; omega)
                have h3 := h1.trans h2
                exact ⟨h3.os, h3.tape, h3.output, by have := h3.size; simp; omega, fun k hk => (hd k (by omega)).trans (h3.block k hk)⟩
            clear hK hxs kf ho hG
            gi_wp2
            refine wpIn_quiet (wpIn_region_held_drew (.inl rfl) (by omega) (by kernel_rfl) (by rintro ⟨_, _, hh⟩; exact hh) (S := (fun U => U.cell? ⟨wr.heap.size, 0, none⟩ = some (.slice A5 xs.length c5))) (by kernel_rfl) ?_ (fun hHeld => ?_))
            · (simp [go_sem, p0])
            refine wpAnyH_take (i := 0) (oi := ?orxn1) (v := ?vrxn1) ?hrxn1 (by kernel_rfl) (by kernel_rfl) (by kernel_rfl) ?qrxn1 ?yrxn1 (by assumption) ?rrxn1
            case hrxn1 => (simp only [List.getElem?_toArray, List.getElem?_cons_succ, List.getElem?_cons_zero]; rfl)
            case qrxn1 => exact fun _ _ _ h => h
            case yrxn1 => (refine Or.inl ⟨by rfl, ?_⟩; intro w hSw; (try dsimp only at hSw); go_simp; first | done | with_reducible rfl)
            (try simp only [Act.put, List.setIfInBounds_toArray, List.set_cons_zero, List.set_cons_succ])
            refine wpAnyH_take (i := 1) (oi := ?orxn2) (v := ?vrxn2) ?hrxn2 (by kernel_rfl) (by kernel_rfl) (by kernel_rfl) ?qrxn2 ?yrxn2 (by assumption) ?rrxn2
            case hrxn2 => (simp only [List.getElem?_toArray, List.getElem?_cons_succ, List.getElem?_cons_zero]; rfl)
            case qrxn2 => exact fun _ _ _ h => h
            case yrxn2 => (refine Or.inl ⟨by rfl, ?_⟩; intro w hSw; (try dsimp only at hSw); go_simp; first | done | with_reducible rfl)
            (try simp only [Act.put, List.setIfInBounds_toArray, List.set_cons_zero, List.set_cons_succ])
            refine wpAnyH_take (i := 2) (oi := ?orxn3) (v := ?vrxn3) ?hrxn3 (by kernel_rfl) (by kernel_rfl) (by kernel_rfl) ?qrxn3 ?yrxn3 (by assumption) ?rrxn3
            case hrxn3 => (simp only [List.getElem?_toArray, List.getElem?_cons_succ, List.getElem?_cons_zero]; rfl)
            case qrxn3 => exact fun _ _ _ h => h
            case yrxn3 => (refine Or.inl ⟨by rfl, ?_⟩; intro w hSw; (try dsimp only at hSw); go_simp; first | done | with_reducible rfl)
            (try simp only [Act.put, List.setIfInBounds_toArray, List.set_cons_zero, List.set_cons_succ])
            refine wpAnyH_take (i := 3) (oi := ?orxn4) (v := ?vrxn4) ?hrxn4 (by kernel_rfl) (by kernel_rfl) (by kernel_rfl) ?qrxn4 ?yrxn4 (by assumption) ?rrxn4
            case hrxn4 => (simp only [List.getElem?_toArray, List.getElem?_cons_succ, List.getElem?_cons_zero]; rfl)
            case qrxn4 => exact fun _ _ _ h => h
            case yrxn4 => (refine Or.inl ⟨by rfl, ?_⟩; intro w hSw; (try dsimp only at hSw); go_simp; first | done | with_reducible rfl)
            (try simp only [Act.put, List.setIfInBounds_toArray, List.set_cons_zero, List.set_cons_succ])
            refine wpAnyH_take (i := 4) (oi := ?orxn5) (v := ?vrxn5) ?hrxn5 (by kernel_rfl) (by kernel_rfl) (by kernel_rfl) ?qrxn5 ?yrxn5 (by assumption) ?rrxn5
            case hrxn5 => (simp only [List.getElem?_toArray, List.getElem?_cons_succ, List.getElem?_cons_zero]; rfl)
            case qrxn5 => exact fun _ _ _ h => h
            case yrxn5 => (refine Or.inl ⟨by rfl, ?_⟩; intro w hSw; (try dsimp only at hSw); go_simp; first | done | with_reducible rfl)
            (try simp only [Act.put, List.setIfInBounds_toArray, List.set_cons_zero, List.set_cons_succ])
            refine wpAnyH_done (by kernel_rfl) ?_ _
            simp only [Quiet]
            gi_wp2
            show LeavesInM _ _ _ _ _ _ _ _ _
            refine ⟨by simp, .inl ⟨_, _, rfl, run_takeDeferred HK.out, ?_⟩⟩
            refine ⟨.tuple #[.slice A2 ys.length c2, .slice A5 xs.length c5, .int .i64 0], ?_, ?_⟩
            · simp [results, Try.results23, go_sem]
            · exact FIN.out
          case stop =>
            rintro c pre G V _ h _ _
            exact h.elim
end Go.Proofs.Ytbeddhamnefpiaa
