/- scan.Sweep, scan.Safe step by step. Written by gen_lssw.py out of gen_lsparts.py. -/
import Derived.Test.YtiobbdfkimpfbaaScSf
namespace Go.Proofs.Ytiobbdfkimpfbaa
set_option linter.unusedSimpArgs false
set_option linter.unusedVariables false
open Go.RowKit Go.Maps

theorem kep_congr {mv mv' : List Int} (h : ∀ f, f ∈ mv ↔ f ∈ mv') (l : List Int) : kep mv l = kep mv' l := by
  unfold kep
  refine List.filter_congr fun x _ => ?_
  rw [decide_eq_decide.2 (h x)]
theorem Sweep_sw (A1 A2 A3 : Option Addr) (c1 c2 c3 : Nat) (xs ys : List Int) (rs : List Bool) (T : Int) (m : Nat) (w : World) (h : InMem w A1 A2 A3 xs ys rs) (hc : lruChk xs ys rs = 0) (ht : tgtB T = true) (hm9 : m ≤ 1000) :
    Calls Try.prog 18 #[.agg #[.slice A1 xs.length c1, .slice A2 ys.length c2, .slice A3 rs.length c3], .int .i64 T, .int .i64 m] w (SwQ (swS T m xs ys rs).xs (swS T m xs ys rs).ys (swS T m xs ys rs).rs (swS T m xs ys rs).vic w) := by
  have := Sweep_ok A1 A2 A3 c1 c2 c3 xs ys rs T m w h hc ht hm9
  obtain ⟨e1, e2, e3, _, e5⟩ := runE_sw (T := T) hc m
  rw [e1, e2, e3, e5] at this
  exact this
theorem Safe_sw (A1 A2 A3 : Option Addr) (c1 c2 c3 : Nat) (xs ys : List Int) (rs : List Bool) (T : Int) (m : Nat) (w : World) (h : InMem w A1 A2 A3 xs ys rs) (hc : lruChk xs ys rs = 0) (ht : tgtB T = true) (hm9 : m ≤ 1000) :
    Calls Try.prog 25 #[.agg #[.slice A1 xs.length c1, .slice A2 ys.length c2, .slice A3 rs.length c3], .int .i64 T, .int .i64 m] w (VPost (srt (kep (swS T m xs ys rs).mov ((swS T m xs ys rs).xs ++ (swS T m xs ys rs).ys)), 0) w) := by
  have := Safe_ok A1 A2 A3 c1 c2 c3 xs ys rs T m w h hc ht hm9
  obtain ⟨e1, e2, _, e4, _⟩ := runE_sw (T := T) hc m
  rw [kep_congr e4, e1, e2] at this
  exact this
theorem sw_vic {T : Int} : ∀ (n : Nat) (xs ys : List Int) (rs : List Bool), (swS T n xs ys rs).vic.length ≤ n := by
  intro n
  induction n with
  | zero => intro xs ys rs; exact Nat.le_refl _
  | succ n ih =>
    intro xs ys rs
    by_cases h : (nxtS T xs ys rs).1 = 0
    · rw [swS_stop h]; simp
    · rw [swS_go h]
      have := ih (nxX T xs ys rs) (nxY T xs ys rs) (nxR T xs ys rs)
      dsimp only
      split
      · rw [List.length_cons]; omega
      · omega
/-- 'append' behind a guard that lets it by. -/
theorem wpList_appG {α : Type} {P : Program} {mk : α → Value} (w : World) {ops : Array Oper} {rest : List Oper} {o : Oper} {a : Act} {Q : Exit → Act → World → Prop} (hw : Region.wanted o (yielded ops a.tmps) = true) (s x : Operand) (t : TypeId)
    (ho : o.op = .call { callee := .builtin .append, args := #[s, x], argTypes := #[t, t] })
    (e : TypeId) (i : TypeInfo) (z : Value) (bytes : Nat) (ht : P.underlying t = some (.slice e)) (hi : P.info? e = some i) (hz : i.zero = some z) (hsize : i.size = 1) (hby : i.bytes = bytes) (hzs : z.cells.size = 1)
    (base : Nat) (A0 : Option Addr) (c0 : Nat) (xs : List α) (hs : a.eval s = .slice A0 xs.length c0) (hown : Own w base e mk (.slice A0 xs.length c0) xs) (A : Option Addr) (c : Nat) (ys : List α) (hx : a.eval x = .slice A ys.length c) (h : Sl w mk A ys)
    (h1 : ∀ u ∈ ys.map mk, u.oneCell' = true) (hl : (xs.length + ys.length) * bytes ≤ 140737488355328) (hl' : xs.length + ys.length ≤ 1000000) (hbase : base ≤ w.heap.size)
    (hK : ∀ A' c' w', Own w' base e mk (.slice A' (xs ++ ys).length c') (xs ++ ys) → w.grownBy w' (A0.map (·.block)) → (A'.map (·.block) = A0.map (·.block) ∨ ∃ g, A'.map (·.block) = some g ∧ w.heap.size ≤ g) →
      wpList P ops Q rest (a.put o.dst (.slice A' (xs ++ ys).length c')) w') : wpList P ops Q (o :: rest) a w := by
  refine wpList_step fun K' hK' => ?_
  rw [if_pos hw]
  obtain ⟨A', c', w', hrun, h2, h3, h4⟩ := run_appS (mk := mk) w t o.type e i z bytes ht hi hz hsize hby hzs base A0 c0 xs hown A c ys h h1 hl hl' hbase
  unfold Oper.wp execOp
  simp only [ho, resolve, invoke, builtin, Sem.run_bind, Sem.run_pure, Result.andThen_ok, List.map_toArray, List.map_cons, List.map_nil, hs, hx, hrun]
  exact hK' _ _ (hK A' c' w' h2 h3 h4)
end Go.Proofs.Ytiobbdfkimpfbaa
