/- rmap.sorted (an iterator over a map's keys, ascending) and its contract. -/
import Derived.Test.YtbeddhamnefpiaaRmQ
import Derived.Test.YtbeddhamnefpiaaSKeys
import Derived.Test.YtbeddhamnefpiaaRange
import Derived.RangeFuncBound
import Derived.RangeFuncCalls
import Derived.RangeFuncLeaves
import Derived.Shelf.Abstract
import Derived.Shelf.RegionOpen
import Derived.OwnWalkIn
import Derived.TacticsInMore
import Derived.LoopNIn
import Derived.LoopIn
namespace Go.Proofs.Ytbeddhamnefpiaa
set_option linter.unusedSimpArgs false
set_option linter.unusedVariables false
open Go.RowKit Go.Maps
open Go.Shelf
attribute [local go_sem] Oper.semAt_some

theorem wpListIn_appR {F : Fence} {nF : Nat} {P : Program} {α : Type} (E : Elt P α) {ops : Array Oper} {rest : List Oper} {o : Oper} {a : Act} {Q : Exit → Act → World → Prop} (hgd : o.guard = none) (s x : Operand) (t : TypeId) (ht : t = E.s)
    (ho : o.op = .call { callee := .builtin .append, args := #[s, x], argTypes := #[t, t] })
    (w : World) (base : Nat) (hbase : base ≤ w.heap.size) (A : Option Addr) (c n : Nat) (l : List α) (hn : n = l.length) (h : CanR E w base A c l) (B : Option Addr) (d n' : Nat) (k : List α) (hn' : n' = k.length) (hk : SR E w B k) (hl : l.length + k.length ≤ 10000)
    (hs : a.eval s = .slice A n c) (hx : a.eval x = .slice B n' d)
    (hK : ∀ A' c' w', CanR E w' base A' c' (l ++ k) → Below base w w' → wpListIn F nF P ops Q rest (a.put o.dst (.slice A' (l ++ k).length c')) w') : wpListIn F nF P ops Q (o :: rest) a w := by
  subst hn hn' ht
  refine wpListIn_plain hgd fun K' hK' => ?_
  obtain ⟨A', c', w', hrun, h2, h3, _⟩ := run_appR E o.type w base hbase A c l h B d k hk hl
  unfold Oper.wpIn
  refine ⟨by simp [Oper.about, ho, resolve, Target.leads, Sem.run_pure], ?_⟩
  rw [Oper.semAt_plain F _ _ (by rw [ho]; intro c hc'; cases hc')]
  simp only [execOp, ho, resolve, invoke, builtin, Sem.run_bind, Sem.run_pure, Result.andThen_ok, List.map_toArray, List.map_cons, List.map_nil, hs, hx, hrun]
  exact hK' _ _ (hK A' c' w' h2 h3)

set_option maxRecDepth 100000 in
set_option maxHeartbeats 1000000 in
theorem sorted_any (mb : Option Nat) (w : World) :
    Calls Try.prog 53 #[.map mb] w fun e w' =>
      e = .returned (.func (.func 62) #[] #[.pointer (some ⟨w.heap.size, 0, none⟩)]) ∧ w' = w.alloc (.cells #[.map mb] 75) := by
  go_enter Try.func53, Try.ntmps53
  go_wp2
  go_ret
  exact ⟨rfl, rfl⟩

theorem Own.blockI {w : World} {base n c q : Nat} {A : Option Addr} {xs : List Int} (h : Own w base 3 (.int .i64) (.slice A n c) xs) (hq : A.map (·.block) = some q) : base ≤ q := by
  obtain ⟨_, ⟨e, _⟩ | ⟨g, cap, cur, e, hg, _⟩⟩ := h
  · injection e with e1 e2 e3; subst e1; cases hq
  · injection e with e1 e2 e3; subst e1; simp at hq; omega

set_option maxRecDepth 100000 in
set_option maxHeartbeats 4000000 in
theorem sorted1_in (n : Nat) (hn : 1 ≤ n) (Bm B nn : Nat) (D : DataW Unit) (Cb : Nat → Prop) (w : World) (hbx : Blk w Bm 75 #[.map (some B)]) (hown : w.ownsMap Try.prog 3 (plainElem Try.prog 4) B nn D) (hnn : nn ≤ 5000)
    (hCw : ∀ b, Cb b → b < w.heap.size) :
    SeqG Fence.wide n Try.prog 62 #[.pointer (some ⟨Bm, 0, none⟩)] (fun x : Int => #[.int .i64 x]) (fun _ _ => True) (fun _ => False) Cb (fun ys => ys = keysS D) (fun pre => pre <+: keysS D) (keysS D).length w := by
  intro lp J Jx W hW hl1 hl2 hJ hY hJx h0
  have hbl := hbx.lt
  have hzW := hW.size
  have hown2 : W.ownsMap Try.prog 3 (plainElem Try.prog 4) B nn D := by
    have hlt := hown.lt
    obtain ⟨es, clock, hb, Ft⟩ := hown
    exact ⟨es, clock, (hW.block B hlt).trans hb, Ft⟩
  have hB2 := hown2.lt
  have hlenD : (keysS D).length ≤ 5000 := by
    have h1 := hown2.size_le
    unfold keysS
    rw [srt_len]
    obtain ⟨es, rfl, _⟩ := hown2.keysOf
    simp only [intKeys, Go.Maps.size] at *
    simp
    omega
  refine callsIn_of_wp Try.func62 rfl trivial ?_ rfl
  simp only [Try.ntmps62, List.size_toArray, List.length_cons, List.length_nil, Nat.reduceAdd, Nat.reduceSub, Array.replicate_succ, Array.replicate_zero, List.push_toArray, List.append_toArray, List.nil_append, List.cons_append]
  have c0 := (hbx.below_ hW hbl).cell_ 0
  simp at c0
  obtain ⟨W1, hW1⟩ : ∃ W1, W.alloc (.cells #[.map (some B)] 75) = W1 := ⟨_, rfl⟩
  have hs1 : W1.heap.size = W.heap.size + 1 := by rw [← hW1]; simp
  have hB1 : Below W.heap.size W W1 := by rw [← hW1]; exact (Below.refl _ _).alloc (Nat.le_refl _) _
  have hk1 : W1.cell? ⟨W.heap.size, 0, none⟩ = some (.map (some B)) := by
    have hk : Blk W1 W.heap.size 75 #[.map (some B)] := by rw [← hW1]; exact Blk.new_ rfl rfl
    simpa using hk.cell_ 0
  have hown1 : W1.ownsMap Try.prog 3 (plainElem Try.prog 4) B nn D := by rw [← hW1]; exact hown2.alloc _
  have hKS : Calls Try.prog 63 #[.func (.func 70) #[] #[.pointer (some ⟨W.heap.size, 0, none⟩)]] W1 _ := kb_sorted W.heap.size B nn D W1 (by omega) hk1 hown1 (by omega)
  gi_wp2_with fail
  refine ⟨trivial, (callsIn_wide.2 (kb_keys (some B) W)).mono ?_⟩
  rintro e w' ⟨rfl, rfl⟩
  gi_wp2_with fail
  refine ⟨trivial, (callsIn_wide.2 hKS).mono ?_⟩
  rintro e W2 ⟨A2, c2, rfl, hsl, hb2⟩
  obtain ⟨ks, hks⟩ : ∃ ks, keysS D = ks := ⟨_, rfl⟩
  have hz2 := hb2.size
  have hB2' : Below W.heap.size W W2 := hB1.trans (hb2.mono (by omega))
  have hJ2 : J [] (fun _ => False) W2 := hJ [] _ W W2 h0 (Nat.le_refl _) (Aside.of_below hB2')
  have hblk : ∀ q, A2.map (·.block) = some q → W1.heap.size ≤ q := fun q hq => hsl.blockI hq
  obtain ⟨A3, c3, e3, hsl3⟩ := hsl.sl
  injection e3 with e4 e5 e6
  subst e4 e6
  have HKS := Lib.hid hks
  rw [hks] at hsl3 hY hlenD ⊢
  have HY := Lib.hid hY
  have HJ := Lib.hid hJ
  clear hks hsl hKS hY hJ hJx h0 hW1 hown1 hk1 hown2 c0
  gi_wp2
  gi_loopw [9] (fun i wr => ∃ (k : Nat) (G : Nat → Prop), k ≤ ks.length ∧ i = .int .i64 k ∧ J (ks.take k) G wr ∧ Hid (∀ b, G b → W2.heap.size ≤ b ∧ b < wr.heap.size) ∧ W2.heap.size ≤ wr.heap.size ∧ Hid (Sl wr (.int .i64) A2 ks)) (fun i _ => ks.length - (intOf i).toNat)
  case atStart => exact ⟨0, fun _ => False, by omega, rfl, by simpa using hJ2, by show ∀ b, _; exact fun b h => h.elim, Nat.le_refl _, hsl3⟩
  case round =>
    obtain ⟨k, G, hk, rfl, hj, HG, hsz, HS⟩ := hrel
    by_cases hlt : k < ks.length
    · obtain ⟨b, off, x, rfl, hb, hx, hc⟩ := HS.out.at_ hlt
      have i1 : (k : Int) < ks.length := by omega
      have hts : ks.take (k + 1) = ks.take k ++ [x] := by
        obtain ⟨hk', e⟩ := List.getElem?_eq_some_iff.1 hx
        rw [List.take_succ_eq_append_getElem hk', e]
      have HT := Lib.hid hts
      have HP : Hid (ks.take k ++ [x] <+: ks) := by show _ <+: _; rw [← hts]; exact List.take_prefix _ _
      have hbq : W1.heap.size ≤ b := hblk b rfl
      have hbW2 : b < W2.heap.size := by
        obtain ⟨b', o', e', hb', _⟩ := hsl3 (by omega)
        injection e' with e'
        injection e' with e1 e2
        omega
      obtain ⟨fn1, tmps1, assign1, body1, hy1, hR1⟩ := HY.out (ks.take k) x G wr hj trivial (by simp; omega) (by omega) (fun b hb => by have := HG.out b hb; omega)
      clear hts hx
      gi_wp2
      refine hR1.mono ?_
      clear hR1 hy1
      rintro e W3 (⟨rfl, has, j3⟩ | ⟨rfl, jx⟩)
      · have hz3 := has.size
        have HAS := Lib.hid has
        clear has
        gi_wp2
        go_roundw
        case rel =>
          refine ⟨k + 1, Gn G wr W3, by omega, by go_num, by rw [HT.out]; exact j3, ?_, by omega, ?_⟩
          · show ∀ b, _
            intro q hq
            rcases hq with hq | hq
            · have := HG.out q hq; omega
            · omega
          · refine HAS.out.sl HS.out (fun q e => ?_)
            simp at e
            subst e
            rintro (h | h | h)
            · have := HG.out _ h
              omega
            · have := hCw _ h; omega
            · omega
        case measure => simp [intOf]; omega
      · gi_wp2
        refine bodyPost_ret (results_none rfl _ _ _) rfl ?_
        exact ⟨⟨_, rfl⟩, .inr ⟨_, _, by rw [HKS.out]; exact HP.out, jx⟩⟩
    · have hd : ks.take k = ks := List.take_of_length_le (by omega)
      rw [hd] at hj
      gi_wp2
      go_end0
      exact ⟨⟨_, rfl⟩, .inl ⟨_, G, rfl, by rw [HKS.out]; exact hj⟩⟩
end Go.Proofs.Ytbeddhamnefpiaa
