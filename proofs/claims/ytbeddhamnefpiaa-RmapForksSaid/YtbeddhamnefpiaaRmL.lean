/- rmap's gather and list. -/
import Derived.Test.YtbeddhamnefpiaaRmT
import Derived.Test.YtbeddhamnefpiaaRmH
namespace Go.Proofs.Ytbeddhamnefpiaa
set_option linter.unusedSimpArgs false
set_option linter.unusedVariables false
open Go.RowKit Go.Maps

set_option maxRecDepth 100000 in
set_option maxHeartbeats 2000000 in
theorem gather_any (A : Option Addr) (c : Nat) (l : List M3) (w : World) (ha : SR mapE w A l) (la : l.length ≤ 1000) (ok : ∀ m ∈ l, okM m = true) :
    Calls Try.prog 55 #[.slice A l.length c] w fun e w' => ∃ B, e = .returned (.map (some B)) ∧ w.heap.size ≤ B ∧ SetP w' B l.length l ∧ Below w.heap.size w w' := by
  have HA := Lib.hid ha
  have HO := Lib.hid ok
  clear ha ok
  have hmm : ∀ (k : Int) (w : World), (Instr.makeMap 80 (some (.int .i64 k))).run Try.prog w = .ok (.map (some w.heap.size)) (w.alloc (.map #[] 0)) := fun k w => by simp [Instr.makeMap, run_underlying Try.underlying80, go_sem, Result.andThen]
  go_enter Try.func55, Try.ntmps55
  go_wp2
  go_loopw [11] (fun i wr => ∃ k : Nat, k ≤ l.length ∧ i = .int .i64 k ∧ Hid (SetP wr w.heap.size k (l.take k)) ∧ Below w.heap.size w wr ∧ w.heap.size < wr.heap.size) (fun i _ => l.length - (intOf i).toNat)
  case atStart => exact ⟨0, by omega, rfl, SetP.new_ w, (by repeat' (first | with_reducible exact Below.refl _ _ | with_reducible assumption | with_reducible apply Below.drew | with_reducible apply below_drewN | with_reducible apply Below.alloc | with_reducible apply Below.setCell | (with_reducible refine Below.trans ?_ (Below.mono (by assumption) ?_)) | (simp; done) | (simp; omega) | omega | with_reducible apply le_size_alloc | with_reducible apply le_size_drewN | with_reducible apply le_size_drew | with_reducible apply le_size_setCell | refine Nat.le_trans ?_ (Below.size (by assumption)))), by simp⟩
  case round =>
    obtain ⟨k, hk, rfl, HS, hbw, hBl⟩ := hrel
    by_cases hlt : k < l.length
    · obtain ⟨b, off, x, rfl, hbl, hx, q0, q1, q2⟩ := map_at (HA.out.ext hbw) hlt
      have i1 : (k : Int) < l.length := by omega
      have hok : okM x = true := HO.out x (List.mem_of_getElem? hx)
      have HTS : Hid (l.take (k + 1) = l.take k ++ [x]) := take_snoc hx
      clear hx
      go_wp2_with (first | (go_at_call 56; with_reducible refine (keyOf_any x hok _).mono ?_; rintro e w1 ⟨rfl, hb1⟩; have SZ : SetP w1 w.heap.size k (l.take k) := HS.out.below_ (C := wr.heap.size) (by repeat' (first | with_reducible exact Below.refl _ _ | with_reducible assumption | with_reducible apply Below.drew | with_reducible apply below_drewN | with_reducible apply Below.alloc | with_reducible apply Below.setCell | (with_reducible refine Below.trans ?_ (Below.mono (by assumption) ?_)) | (simp; done) | (simp; omega) | omega | with_reducible apply le_size_alloc | with_reducible apply le_size_drewN | with_reducible apply le_size_drew | with_reducible apply le_size_setCell | refine Nat.le_trans ?_ (Below.size (by assumption)))) hBl; have BZ : Below w.heap.size w w1 := (by repeat' (first | with_reducible exact Below.refl _ _ | with_reducible assumption | with_reducible apply Below.drew | with_reducible apply below_drewN | with_reducible apply Below.alloc | with_reducible apply Below.setCell | (with_reducible refine Below.trans ?_ (Below.mono (by assumption) ?_)) | (simp; done) | (simp; omega) | omega | with_reducible apply le_size_alloc | with_reducible apply le_size_drewN | with_reducible apply le_size_drew | with_reducible apply le_size_setCell | refine Nat.le_trans ?_ (Below.size (by assumption)))); have zs := hb1.size) | (at_mapUpdate; refine wpList_putP _ rfl _ _ _ rfl w.heap.size k (l.take k) rfl ?_ (by omega) x hok rfl rfl ?_; (exact SZ); intro w5 hs5 hg5))
      have zg := hg5.size
      simp at zs
      go_roundw
      case rel =>
        refine ⟨k + 1, by omega, by go_num, ?_, below_grown BZ hg5 (Nat.le_refl _), by omega⟩
        show SetP _ _ _ _
        rw [HTS.out]
        exact hs5.congr fun m => by simp [or_comm]
      case measure => simp [intOf]; omega
    · have hd : l.take k = l := List.take_of_length_le (by omega)
      have h1 := HS.out
      rw [hd] at h1
      have HF := Lib.hid (h1.mono hk)
      clear hd h1 HS
      go_wp2
      go_ret
      exact ⟨_, rfl, Nat.le_refl _, HF.out, hbw⟩

/-- append to a row of one's own, and what of the world has turned. -/
theorem run_ownR {α : Type} (E : Elt Try.prog α) (ty : TypeId) (w : World) (base : Nat) (hbase : base ≤ w.heap.size) (A : Option Addr) (c : Nat) (l : List α) (h : OwnR E w base (.slice A l.length c) l) (B : Option Addr) (d : Nat) (k : List α) (hk : SR E w B k) (hp : 0 < k.length) (hl : l.length + k.length ≤ 10000) :
    ∃ A' c' w', (Builtin.append_ #[E.s, E.s] ty #[.slice A l.length c, .slice B k.length d]).run Try.prog w = .ok (.slice A' (l ++ k).length c') w' ∧ OwnR E w' base (.slice A' (l ++ k).length c') (l ++ k) ∧ Below base w w' ∧ w.grownBy w' (Value.ownBlock (.slice A l.length c)) := by
  obtain ⟨i0, hi, hz0, hz1, hz2⟩ := info_parts E.hi
  have hpos := E.pos
  obtain ⟨hb1, hb2⟩ := E.few
  obtain ⟨b, off, rfl, hb, hc⟩ := hk (SR.len_pos hp)
  have hk' : SR E w (some ⟨b, off, none⟩) k := hk
  obtain ⟨v', w', hrun, h2, h3, _, h5⟩ := run_append_own_at (P := Try.prog) w base E.s ty E.e i0 _ E.sz E.bytes E.hs hi hz0 hz1 hz2 E.hz hpos _ l.length (E.flat l) h ⟨b, off, none⟩ k.length d (E.flat k) (E.flat_length k) (SR.cells hk') (E.flat_cells k) (by unfold maxLen; omega) (by have := Nat.mul_le_mul (show l.length + k.length ≤ 10000 from hl) hb1; omega) hbase
  have hO : OwnR E w' base v' (l ++ k) := by
    unfold OwnR
    rw [E.flat_append, List.length_append]
    exact h2
  have hv : ∃ A' c', v' = .slice A' (l ++ k).length c' := by
    obtain ⟨_, ⟨e, hn⟩ | ⟨g, cap, cur, e, _⟩⟩ := hO
    · exact ⟨none, 0, by rw [e, hn]⟩
    · exact ⟨_, _, e⟩
  obtain ⟨A', c', rfl⟩ := hv
  refine ⟨A', c', w', hrun, hO, ?_, h3⟩
  refine (Below.refl base w).grown h3 hbase (fun r e => ?_)
  obtain ⟨_, ⟨e', _⟩ | ⟨g, cap, cur, e', hg, _⟩⟩ := h
  · injection e' with e1
    subst e1
    cases e
  · injection e' with e1
    subst e1
    simp [Value.ownBlock] at e
    omega
theorem wpList_ownR {α : Type} (E : Elt Try.prog α) {ops : Array Oper} {rest : List Oper} {o : Oper} {a : Act} {Q : Exit → Act → World → Prop} (hgd : o.guard = none) (s x : Operand) (t : TypeId) (ht : t = E.s)
    (ho : o.op = .call { callee := .builtin .append, args := #[s, x], argTypes := #[t, t] })
    (w : World) (base : Nat) (hbase : base ≤ w.heap.size) (A : Option Addr) (c n : Nat) (l : List α) (hn : n = l.length) (h : OwnR E w base (.slice A l.length c) l) (B : Option Addr) (d n' : Nat) (k : List α) (hn' : n' = k.length) (hk : SR E w B k) (hp : 0 < k.length) (hl : l.length + k.length ≤ 10000)
    (hs : a.eval s = .slice A n c) (hx : a.eval x = .slice B n' d)
    (hK : ∀ A' c' w', OwnR E w' base (.slice A' (l ++ k).length c') (l ++ k) → Below base w w' → w.grownBy w' (Value.ownBlock (.slice A l.length c)) → wpList Try.prog ops Q rest (a.put o.dst (.slice A' (l ++ k).length c')) w') : wpList Try.prog ops Q (o :: rest) a w := by
  subst hn hn' ht
  refine wpList_plain hgd fun K' hK' => ?_
  obtain ⟨A', c', w', hrun, h2, h3, h4⟩ := run_ownR E o.type w base hbase A c l h B d k hk hp hl
  unfold Oper.wp execOp
  simp only [ho, resolve, invoke, builtin, Sem.run_bind, Sem.run_pure, Result.andThen_ok, List.map_toArray, List.map_cons, List.map_nil, hs, hx, hrun]
  exact hK' _ _ (hK A' c' w' h2 h3 h4)
/-- A row of one's own is no block of another kind. -/
theorem OwnR.cellsB {α : Type} {E : Elt Try.prog α} {w : World} {base n c : Nat} {A : Option Addr} {l : List α} (h : OwnR E w base (.slice A n c) l) {r : Nat} (hr : ∀ cs t fr, w.heap[r]? ≠ some (.cells cs t fr)) : some r ≠ Value.ownBlock (.slice A n c) := by
  obtain ⟨_, ⟨e, _⟩ | ⟨g, cap, cur, e, _, hb, _⟩⟩ := h
  · injection e with e1 e2 e3
    subst e1
    simp [Value.ownBlock]
  · injection e with e1 e2 e3
    subst e1
    simp only [Value.ownBlock, ne_eq, Option.some.injEq]
    intro e
    subst e
    exact hr _ _ _ hb
theorem OwnR.grownB {α : Type} {E : Elt Try.prog α} {w w' : World} {base n c : Nat} {A : Option Addr} {l : List α} (h : OwnR E w base (.slice A n c) l) {row : Option Nat} (hg : w.grownBy w' row) (hne : ∀ r, row = some r → ∀ cs t fr, w.heap[r]? ≠ some (.cells cs t fr)) : OwnR E w' base (.slice A n c) l := by
  obtain ⟨hl, h⟩ := h
  refine ⟨hl, ?_⟩
  rcases h with h | ⟨g, cap, cur, e, h1, h2, h3⟩
  · exact .inl h
  · exact .inr ⟨g, cap, cur, e, h1, (hg.block g (Array.getElem?_eq_some_iff.1 h2).1 (fun e => hne g e.symm _ _ _ h2)).trans h2, h3⟩
theorem ranges_iter {H : Type} {w : World} {P : Program} {k : TypeId} {R : Value → Option (DataW H × List MemPlace)} {b r n : Nat} {D : DataW H} {left : Lit → Bool} {cnt : Nat} (h : w.ranges P k R b r n D left cnt) : (∀ cs t fr, w.heap[r]? ≠ some (.cells cs t fr)) ∧ (∀ cs t fr, w.heap[b]? ≠ some (.cells cs t fr)) := by
  obtain ⟨es, clock, since, seen, c0, hb, _, _, _, hr, _⟩ := h
  exact ⟨fun cs t fr e => (by rw [hr] at e; cases e), fun cs t fr e => (by rw [hb] at e; cases e)⟩
theorem sortF_two (base : Nat) (A : Option Addr) (c : Nat) (l : List M3) (w : World) (h : l = [] ∨ OwnR mapE w base (.slice A l.length c) l) (hl : l.length ≤ 100000) :
    Calls Try.prog 66 #[.slice A l.length c, .func (.func 44) #[] #[]] w fun e w' =>
      e = .returned (.tuple #[]) ∧ CR mapE w' A c (srtM l) ∧ Below base w w' := by
  rcases h with rfl | h
  · refine (sortF_none A c _ w).mono ?_
    rintro e w' ⟨rfl, rfl⟩
    exact ⟨rfl, by simp [srtM]; exact CR.nil, Below.refl _ _⟩
  · refine (sortF_own base A c l w h hl).mono ?_
    rintro e w' ⟨rfl, h1, h2⟩
    exact ⟨rfl, CanR.cr (.inr h1), h2⟩
set_option maxRecDepth 100000 in
set_option maxHeartbeats 2000000 in
theorem list_any (B n : Nat) (l ys : List M3) (w : World) (hs : SetP w B n l) (hn : n ≤ 5000) (ha : Asc ys) (hm : ∀ m, m ∈ ys ↔ m ∈ l) :
    Calls Try.prog 57 #[.map (some B)] w (RowPost mapE ys w) := by
  obtain ⟨⟨D, ho, hq, hv⟩, hok⟩ := hs
  have hsz := ho.size_le
  have hBl := ho.lt
  obtain ⟨i0, hi, hz0, hz1, hz2⟩ := info_parts mapE.hi
  obtain ⟨W1, hmk, own1, hg1⟩ := run_make_own (P := Try.prog) w w.heap.size 22 59 i0 _ 3 Try.underlying22 hi hz0 hz1 .i64 .i64 (Go.Maps.size D) (by rw [hz2]; show 24 * _ ≤ _; omega) (by unfold maxLen; omega) (Nat.le_refl _)
  have hO1 : OwnR mapE W1 w.heap.size (.slice (some ⟨w.heap.size, 0, none⟩) 0 (Go.Maps.size D)) [] := own1
  have B1 : Below w.heap.size w W1 := (Below.refl _ w).grown hg1 (Nat.le_refl _) (fun j hj => by cases hj)
  have hs1 : SetB W1 83 B n (fun z => ∃ m ∈ l, z = klM m) := SetB.below_ ⟨D, ho, hq, hv⟩ B1 hBl
  have HO := Lib.hid hok
  have HM := Lib.hid hm
  clear hok own1 hq hv hm hi hz0 hz1 hz2
  have hz1' := B1.size
  have hlen := fun ty => ho.len Try.underlying80 ty
  go_enter Try.func57, Try.ntmps57
  go_wp2_with (first
    | (at_range; refine wpList_setRange _ rfl _ _ rfl _ keyK Try.underlying80 B n _ rfl hs1 ?_; intro w0 D0 left0 cnt0 hrg0 hl0 hc0 hg0 hs0)
    | go_in)
  go_frame
  have HL0 : Hid (∀ z, left0 z = true ↔ ∃ m ∈ l, m ∉ ([] : List M3) ∧ z = klM m) := by show ∀ z, _; intro z; rw [hl0 z]; simp
  have B0 : Below w.heap.size w w0 := B1.trans ((Below.refl _ W1).grown hg0 (Nat.le_refl _) (fun j hj => by cases hj) |>.mono hz1')
  have O0 : OwnR mapE w0 w.heap.size (.slice (some ⟨w.heap.size, 0, none⟩) 0 (Go.Maps.size D)) [] := hO1.ext ((Below.refl _ W1).grown hg0 (Nat.le_refl _) (fun j hj => by cases hj))
  clear hl0
  go_loopw [3] (fun v wr => ∃ (xs : List M3) (A : Option Addr) (c cnt : Nat) (left : Lit → Bool), v = .slice A xs.length c ∧ OwnR mapE wr w.heap.size (.slice A xs.length c) xs ∧
      wr.ranges Try.prog 83 (plainElem Try.prog 4) B W1.heap.size n D0 left cnt ∧ Hid xs.Nodup ∧ Hid (∀ m ∈ xs, m ∈ l) ∧ Hid (∀ z, left z = true ↔ ∃ m ∈ l, m ∉ xs ∧ z = klM m) ∧ xs.length + cnt ≤ n ∧ Below w.heap.size w wr)
    (fun _ wr => wr.rangeLeft B W1.heap.size)
  case atStart => exact ⟨[], _, _, cnt0, left0, rfl, O0, hrg0, List.nodup_nil, by show ∀ m ∈ _, _; simp, HL0.out, by simpa using hc0, B0⟩
  case round =>
    obtain ⟨xs, A, c, cnt, left, rfl, hown, hrg, HN, HI, HLf, hle, hbw⟩ := hrel
    go_wp2_with (first
      | (at_next; refine wpList_next_ranges _ rfl _ rfl 83 keyK _ (id : Value → Value) (id : Value → Value) (fun key kl hk => ⟨key, rfl⟩) (fun v y hv => ⟨v, rfl⟩) B W1.heap.size n D0 left cnt rfl hrg ?_ ?_)
      | go_in)
    · intro hc0' hl0
      have hmem : ∀ m, m ∈ xs ↔ m ∈ ys := fun m => by
        constructor
        · intro h; exact (HM.out m).2 (HI.out m h)
        · intro h
          by_cases hx : m ∈ xs
          · exact hx
          · have := (HLf.out (klM m)).2 ⟨m, (HM.out m).1 h, hx, rfl⟩
            rw [hl0] at this
            cases this
      have HE : Hid (srtM xs = ys) := srtM_eq HN.out ha hmem
      have HLn : Hid (xs.length = ys.length) := by show _ = _; rw [← HE.out, srtM_len]
      clear hmem hl0 HLf HI HN
      go_wp2_with (go_at_call 66; refine (sortF_two w.heap.size A c xs wr (.inr hown) (by omega)).mono ?_; rintro e w6 ⟨rfl, hcr, hb6⟩)
      go_ret
      refine ⟨A, c, by rw [HLn.out]; rfl, ?_, hbw.trans hb6⟩
      have := hcr
      rw [HE.out] at this
      exact this
    · intro key v kl yd yp w2 cnt2 hkey hlk hv2 hat hrg2 hlt hg2 hs2 hen
      obtain ⟨m, hml, hmx, rfl⟩ := (HLf.out kl).1 hlk
      have hok : okM m = true := HO.out m hml
      obtain rfl : key = kvM m := keyK.inj hkey (key_lit hok)
      dsimp only [id, kvM] at hen ⊢
      have hbw2 : Below w.heap.size w w2 := hbw.grown hg2 hbw.size (fun j hj => by cases hj; exact hz1')
      have hown2 := hown.grownB hg2 (fun r e => by cases e; exact (ranges_iter hrg).1)
      have zs2 : wr.heap.size ≤ w2.heap.size := hg2.size
      clear hs2
      have HLf2 : Hid (∀ z, (left z && !z.sameKey (klM m)) = true ↔ ∃ m' ∈ l, m' ∉ xs ++ [m] ∧ z = klM m') := by
        show ∀ z, _
        intro z
        constructor
        · intro h
          simp only [Bool.and_eq_true, Bool.not_eq_true'] at h
          obtain ⟨m', h1, h2, rfl⟩ := (HLf.out z).1 h.1
          refine ⟨m', h1, fun hm => ?_, rfl⟩
          rcases List.mem_append.1 hm with h3 | h3
          · exact h2 h3
          · simp at h3
            subst h3
            rw [WideAt.sameKey_self (keyK.key (key_lit hok))] at h
            cases h.2
        · rintro ⟨m', h1, h2, rfl⟩
          have hx := (HLf.out _).2 ⟨m', h1, fun h => h2 (by simp [h]), rfl⟩
          rw [hx, sameKey_ne (fun e => h2 (by rw [klM_inj (HO.out m' h1) hok e]; simp))]
          rfl
      have HN2 : Hid (xs ++ [m]).Nodup := by
        show List.Nodup _
        rw [List.nodup_append]
        refine ⟨HN.out, by simp, fun a ha b hb => ?_⟩
        simp at hb
        subst hb
        exact fun e => hmx (e ▸ ha)
      have HI2 : Hid (∀ m' ∈ xs ++ [m], m' ∈ l) := by
        show ∀ m' ∈ _, _
        intro m' h
        rcases List.mem_append.1 h with h3 | h3
        · exact HI.out m' h3
        · simp at h3; subst h3; exact hml
      have hleft := hrg.left_eq
      clear HLf HN HI hml hmx hlk hat hkey hv2
      go_wp2_with (first
        | (go_at_call 65; with_reducible refine (mapping_any m hok _).mono ?_; rintro e w3 ⟨rfl, hb3⟩; have B3 : Below w2.heap.size w2 w3 := (by repeat' (first | with_reducible exact Below.refl _ _ | with_reducible assumption | with_reducible apply Below.drew | with_reducible apply below_drewN | with_reducible apply Below.alloc | with_reducible apply Below.setCell | (with_reducible refine Below.trans ?_ (Below.mono (by assumption) ?_)) | (simp; done) | (simp; omega) | omega | with_reducible apply le_size_alloc | with_reducible apply le_size_drewN | with_reducible apply le_size_drew | with_reducible apply le_size_setCell | refine Nat.le_trans ?_ (Below.size (by assumption)))); have z3 := B3.size; have hO3 := hown2.ext B3)
        | (at_builtin; refine wpList_ownR mapE rfl (.tmp 14) (.tmp 17) _ rfl rfl _ w.heap.size (by simp; have := hbw2.size; omega) A c _ xs rfl (hO3.ext ((Below.refl _ w3).alloc (Nat.le_refl _) _)) (some ⟨w3.heap.size, 0, none⟩) 1 1 [m] rfl (SR.of_blk (Blk.new_ rfl rfl)) (by simp) (by simp; omega) rfl rfl ?_; intro A5 c5 w5 hO5 hb5 hg5)
        | go_in)
      have hrg5 : w5.ranges Try.prog 83 (plainElem Try.prog 4) B W1.heap.size n D0 (fun z => left z && !z.sameKey (klM m)) cnt2 := by
        have key : ∀ V : World, Below w2.heap.size w2 V → V.grownBy w5 (Value.ownBlock (.slice A xs.length c)) → OwnR mapE V w.heap.size (.slice A xs.length c) xs → w5.ranges Try.prog 83 (plainElem Try.prog 4) B W1.heap.size n D0 (fun z => left z && !z.sameKey (klM m)) cnt2 := fun V hV hg ho => by
          have h3 := hrg2.kept (row := none) ⟨hV.os, hV.tape, hV.output, hV.size, fun k hk _ => hV.block k hk⟩ (by simp) (by simp)
          exact h3.kept hg (ho.cellsB (ranges_iter h3).2) (ho.cellsB (ranges_iter h3).1)
        exact key _ (B3.alloc z3 _) hg5 (hO3.ext ((Below.refl _ w3).alloc (Nat.le_refl _) _))
      go_roundw
      case rel => exact ⟨xs ++ [m], A5, c5, cnt2, _, by simp, by simpa using hO5, hrg5, HN2.out, HI2.out, HLf2.out, by simp; omega, ((hbw2.trans (B3.mono hbw2.size)).alloc (by have := hbw2.size; omega) _).trans hb5⟩
      case measure => rw [hrg5.left_eq, hleft]; exact hlt
end Go.Proofs.Ytbeddhamnefpiaa
