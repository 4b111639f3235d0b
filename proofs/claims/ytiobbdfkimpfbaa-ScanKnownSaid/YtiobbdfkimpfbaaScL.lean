/- scan.Victims. Written by gen_scl.py. -/
import Derived.Test.YtiobbdfkimpfbaaScK
import Derived.Maps.AppendAt
namespace Go.Proofs.Ytiobbdfkimpfbaa
open Go.RowKit Go.Maps
open Go.Shelf
attribute [local go_sem] Oper.semAt_some

theorem wpListIn_app_at {F : Fence} {n : Nat} {P : Program} (w : World) {ops : Array Oper} {rest : List Oper} {o : Oper} {a : Act} {Q : Exit → Act → World → Prop}
    (hg : o.guard = none) (s x : Operand) (t : TypeId) (hop : o.op = Op.call { callee := Callee.builtin Builtin.append, args := #[s, x], argTypes := #[t, t] })
    (base : Nat) (e : TypeId) (i : TypeInfo) (z : Value) (size bytes : Nat) (h1 : P.underlying t = some (.slice e)) (h2 : P.info? e = some i) (h3 : i.zero = some z) (h4 : i.size = size) (h5 : i.bytes = bytes) (h6 : z.cells.size = size) (h7 : 0 < size)
    (v : Value) (k : Nat) (xs : List Value) (hs : a.eval s = v) (hown : w.ownsRow base e size v k xs) (ad : Addr) (m c : Nat) (news : List Value) (hx : a.eval x = .slice (some ad) m c) (hn : news.length = m * size)
    (hc : ∀ j u, news[j]? = some u → w.cell? (ad.add j) = some u) (h1c : ∀ u ∈ news, u.oneCell' = true) (b1 : k + m ≤ maxLen) (b2 : (k + m) * bytes ≤ 140737488355328) (b3 : base ≤ w.heap.size)
    (hK : ∀ v' w', w'.ownsRow base e size v' (k + m) (xs ++ news) → w.grownBy w' v.ownBlock → (v'.ownBlock = v.ownBlock ∨ v'.ownBlock = some w.heap.size) → wpListIn F n P ops Q rest (a.put o.dst v') w') :
    wpListIn F n P ops Q (o :: rest) a w := by
  refine wpListIn_plain hg fun K hK' => ?_
  obtain ⟨v', w', hrun, r1, r2, _, r3⟩ := run_append_own_at (P := P) w base t o.type e i z size bytes h1 h2 h3 h4 h5 h6 h7 v k xs hown ad m c news hn hc h1c b1 b2 b3
  unfold Oper.wpIn
  refine ⟨?_, ?_⟩
  · simp [Oper.about, hop, resolve, Target.leads, Sem.run_pure]
  · rw [Oper.semAt_plain F _ _ (by rw [hop]; intro c hc'; cases hc')]
    simp [execOp, hop, resolve, invoke, builtin, hs, hx, hrun, Result.andThen]
    exact hK' _ _ (hK v' w' r1 r2 r3)

/-- A row of ints that a variable holds, in memory of the rounds' own. -/
def VB (base Bv : Nat) (vs : List Int) (G : Nat → Prop) (V : World) : Prop :=
  ∃ A c, Blk V Bv 22 #[.slice A vs.length c] ∧ Own V base 3 (.int .i64) (.slice A vs.length c) vs ∧ ∀ g, A.map (·.block) = some g → G g
theorem Own.aside {α : Type} {w w' : World} {Z : Nat → Prop} {base : Nat} {E : TypeId} {mk : α → Value} {A : Option Addr} {n c : Nat} {xs : List α} (h : Own w base E mk (.slice A n c) xs) (ha : Aside Z w w') (hz : ∀ g, A.map (·.block) = some g → ¬ Z g) : Own w' base E mk (.slice A n c) xs := by
  rcases h.form with ⟨e, rfl⟩ | ⟨g, cur, e, hb, hk, hs, hm, hc⟩
  · rw [e]; exact World.ownsRow_nil _ _ _ _
  · rw [e]
    injection e with e1
    subst e1
    exact Own.of_blk (ha.blk hk (hz g rfl)) hb hs hm hc
theorem VB.aside {base Bv : Nat} {vs : List Int} {G Z : Nat → Prop} {V V' : World} (h : VB base Bv vs G V) (ha : Aside Z V V') (h1 : ¬ Z Bv) (h2 : ∀ g, G g → ¬ Z g) : VB base Bv vs G V' := by
  obtain ⟨A, c, hk, ho, hg⟩ := h
  exact ⟨A, c, ha.blk hk h1, ho.aside ha fun g e => h2 g (hg g e), hg⟩
theorem VB.mono {base Bv : Nat} {vs : List Int} {G G' : Nat → Prop} {V : World} (h : VB base Bv vs G V) (hG : ∀ g, G g → G' g) : VB base Bv vs G' V := by
  obtain ⟨A, c, hk, ho, hg⟩ := h
  exact ⟨A, c, hk, ho, fun g e => hG g (hg g e)⟩
/-- One more. -/
theorem VB.app {base Bv : Nat} {vs : List Int} {G : Nat → Prop} {V w1 : World} {A : Option Addr} {c : Nat} {x : Int} {v' : Value} (hk : Blk V Bv 22 #[.slice A vs.length c]) (ho : Own V base 3 (.int .i64) (.slice A vs.length c) vs) (hbV : base ≤ V.heap.size) (hbB : base ≤ Bv) (hg : ∀ g, A.map (·.block) = some g → G g) (hGb : ¬ G Bv) (hGl : ∀ g, G g → g < V.heap.size)
    (hown : w1.ownsRow base 3 1 v' (vs.length + 1) (vs.map (.int .i64) ++ [.int .i64 x])) (hgr : (V.alloc (.cells #[.int .i64 x] 3)).grownBy w1 (Value.slice A vs.length c).ownBlock)
    (hat : v'.ownBlock = (Value.slice A vs.length c).ownBlock ∨ v'.ownBlock = some (V.alloc (.cells #[.int .i64 x] 3)).heap.size) :
    Blk w1 Bv 22 #[.slice A vs.length c] ∧ Aside (fun b => G b) V w1 ∧ KeepsOthers V (w1.setCell ⟨Bv, 0, none⟩ v') ∧ Below base V (w1.setCell ⟨Bv, 0, none⟩ v') ∧ VB base Bv (vs ++ [x]) (Gn G V (w1.setCell ⟨Bv, 0, none⟩ v')) (w1.setCell ⟨Bv, 0, none⟩ v') := by
  have hob : (Value.slice A vs.length c).ownBlock = A.map (·.block) := by cases A <;> rfl
  have hlt := hk.lt
  have hk1 : Blk w1 Bv 22 #[.slice A vs.length c] := by
    refine (hgr.block Bv (by simp; omega) (fun e => ?_)).trans (hk.alloc_ _)
    rw [hob] at e
    exact hGb (hg Bv e.symm)
  have ha : Aside (fun b => G b) V w1 := by
    refine (((Aside.refl (fun b => G b) V).alloc _).grown hgr fun k e => ?_)
    rw [hob] at e
    exact .inr (hg k e)
  have hrow : (Value.slice A vs.length c).ownBlock = none ∨ ∃ g cur, (Value.slice A vs.length c).ownBlock = some g ∧ base ≤ g ∧ Blk V g 3 cur := by
    rcases ho.form with ⟨e, _⟩ | ⟨g, cur, e, hb, hk, _⟩
    · rw [e]; exact .inl rfl
    · rw [e]; exact .inr ⟨g, cur, rfl, hb, hk⟩
  refine ⟨hk1, ha, ?_, ?_, ?_⟩
  · refine ((KeepsOthers.alloc V _).trans (KeepsOthers.of_grownBy hgr fun j o ej hj => ?_)).trans (KeepsOthers.setCell _ _ _)
    rcases hrow with h | ⟨g, cur, h, _, hb⟩
    · rw [h] at ej; cases ej
    · rw [h] at ej
      injection ej with ej
      subst ej
      rw [(hb.alloc_ _ : _ = _)] at hj
      cases hj; rfl
  · refine (((Below.refl base V).alloc hbV _).grown hgr (by simp; omega) fun j ej => ?_).setCell (p := ⟨Bv, 0, none⟩) hbB v'
    rcases hrow with h | ⟨g, cur, h, hb, _⟩
    · rw [h] at ej; cases ej
    · rw [h] at ej; injection ej with ej; omega
  have hO : Own w1 base 3 (.int .i64) v' (vs ++ [x]) := by
    show w1.ownsRow _ _ _ _ _ _
    rw [List.map_append, List.length_append]
    exact hown
  obtain ⟨A', c', rfl, _⟩ := hO.sl
  have hob' : (Value.slice A' (vs ++ [x]).length c').ownBlock = A'.map (·.block) := by cases A' <;> rfl
  have hblk : ∀ g, A'.map (·.block) = some g → Gn G V (w1.setCell ⟨Bv, 0, none⟩ (.slice A' (vs ++ [x]).length c')) g ∧ g ≠ Bv := fun g e => by
    rw [hob', e, hob] at hat
    rcases hat with h | h
    · have := hg g h.symm
      exact ⟨.inl this, fun e => hGb (e ▸ this)⟩
    · injection h with h
      subst h
      have := hgr.size
      have hl : (V.alloc (.cells #[.int .i64 x] 3)).heap.size < w1.heap.size := (hO.block _ e).2
      refine ⟨.inr ⟨by simp, by simpa [World.setCell] using hl⟩, by simp; omega⟩
  refine ⟨A', c', by simpa using hk1.set_ 0 (.slice A' (vs ++ [x]).length c'), ?_, fun g e => (hblk g e).1⟩
  exact hO.aside ((Aside.refl (fun k => k = Bv) w1).setCell (p := ⟨Bv, 0, none⟩) (.inr rfl) _) fun g e => (hblk g e).2

/-- The victims among events. -/
def vicP (l : List EvP) : List Int := (l.filter (fun e => e.what == 3)).map EvP.f
theorem vicP_snoc (l : List EvP) (e : EvP) : vicP (l ++ [e]) = vicP l ++ (if e.what = 3 then [e.f] else []) := by
  unfold vicP
  rw [List.filter_append, List.map_append]
  congr 1
  by_cases h : e.what = 3 <;> simp [h]
theorem vicP_len (l : List EvP) : (vicP l).length ≤ l.length := by unfold vicP; rw [List.length_map]; exact List.length_filter_le _ _
theorem evs_len (T : Int) : ∀ (n : Nat) (xs ys : List Int) (rs : List Bool) (mv : List Int), (evs T n xs ys rs mv).length ≤ n
  | 0, _, _, _, _ => by simp [evs]
  | n + 1, _, _, _, _ => by
    unfold evs
    split
    · simp
    · rw [List.length_cons]
      exact Nat.succ_le_succ (evs_len T n _ _ _ _)
theorem full_len {T : Int} {xs ys : List Int} {rs : List Bool} {mv : List Int} (hc : lruChk xs ys rs = 0) : (full T xs ys rs mv).length ≤ 2000 := by
  have h := evs_len T (phi xs ys rs + 1) xs ys rs mv
  have := chk_len hc
  have h2 : refC rs ys ≤ ys.length := List.countP_le_length
  unfold full
  unfold phi at *
  omega
/-- scan.Victims. -/
def vicS (T : Int) (xs ys : List Int) (rs : List Bool) : List Int × Int := if sndS xs ys rs (tgtB T) ≠ 0 then ([], sndS xs ys rs (tgtB T)) else (vicP (full T xs ys rs []), 0)
def VPost (R : List Int × Int) (w : World) (e : Ending) (w' : World) : Prop := ∃ A c, e = .returned (.tuple #[.slice A R.1.length c, .int .i64 R.2]) ∧ Sl w' (.int .i64) A R.1 ∧ Below w.heap.size w w'
end Go.Proofs.Ytiobbdfkimpfbaa
