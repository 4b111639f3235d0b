/- zone.Fit: what the map literal's block holds while its entries are laid, in whatever order. -/
import Derived.Test.YtmbpjafiinfkkaaGreatDoorFreeG
import Derived.Test.YtmbpjafiinfkkaaGreatDoorZF1
namespace Go.Proofs.YtmbpjafiinfkkaaGreatDoor
set_option linter.unusedSimpArgs false
set_option linter.unusedVariables false
open Go.RowKit Go.Maps

abbrev OM (w : World) (b n : Nat) (D : DataW Unit) : Prop := w.ownsMap Tryz.prog 3 (plainElem Tryz.prog 28) b n D
/-- Block b is a map with keys from 1 to 9, and z k at each key k. -/
def GoodM (z : Int → Int) (w : World) (b : Nat) : Prop := ∃ (D : DataW Unit) (n : Nat), OM w b n D ∧ (∀ x, Go.Maps.has D x = true → ∃ k : Int, 1 ≤ k ∧ k ≤ 9 ∧ x = .int .i64 k) ∧ ∀ k, Go.Maps.has D (.int .i64 k) = true → ∀ d, D.atKey (.int .i64 k) d = .lit (.int .i64 (z k))
def HasM (w : World) (b : Nat) (k : Int) : Prop := ∃ (D : DataW Unit) (n : Nat), OM w b n D ∧ Go.Maps.has D (.int .i64 k) = true
section
variable {z : Int → Int} {w w' : World} {b n n' : Nat} {D D' : DataW Unit} {k : Int}
theorem OM.det (h : OM w b n D) (h' : OM w b n' D') : D = D' := by
  obtain ⟨es, clock, hb, _, _, rfl⟩ := h
  obtain ⟨es', clock', hb', _, _, rfl⟩ := h'
  rw [hb] at hb'
  injection hb' with hb'
  injection hb' with e1 e2
  subst e1
  rfl
theorem OM.congr (h : OM w b n D) (e : w'.heap[b]? = w.heap[b]?) : OM w' b n D := by
  obtain ⟨es, clock, hb, r⟩ := h
  exact ⟨es, clock, e.trans hb, r⟩
theorem GoodM.congr (h : GoodM z w b) (e : w'.heap[b]? = w.heap[b]?) : GoodM z w' b := by
  obtain ⟨D, n, h, r⟩ := h
  exact ⟨D, n, h.congr e, r⟩
theorem HasM.congr (h : HasM w b k) (e : w'.heap[b]? = w.heap[b]?) : HasM w' b k := by
  obtain ⟨D, n, h, r⟩ := h
  exact ⟨D, n, h.congr e, r⟩
theorem GoodM.new_ (z : Int → Int) (w : World) : GoodM z (w.alloc (.map #[] 0)) w.heap.size :=
  ⟨.map [], 0, World.ownsMap_made _ _ _ _, fun x h => by simp [Go.Maps.has] at h, fun x h => by simp [Go.Maps.has] at h⟩
theorem GoodM.lt (h : GoodM z w b) : b < w.heap.size := by obtain ⟨D, n, h, _⟩ := h; exact World.ownsMap.lt h
theorem OM.small (h : OM w b n D) (hk : ∀ x, Go.Maps.has D x = true → ∃ k : Int, 1 ≤ k ∧ k ≤ 9 ∧ x = .int .i64 k) : OM w b 9 D := by
  have hp : (([1, 2, 3, 4, 5, 6, 7, 8, 9] : List Int).filter (fun k => Go.Maps.has D (.int .i64 k))).Perm (intKeys D) := by
    refine CollectedI.perm (left := fun _ => false) ⟨?_, fun x => ?_⟩ h intKeyed Tryz.underlying3 (fun _ => rfl)
    · exact List.Nodup.sublist List.filter_sublist (by decide)
    · simp only [List.mem_filter, and_true]
      constructor
      · exact fun hx => hx.2
      · intro hx
        refine ⟨?_, hx⟩
        obtain ⟨k, h1, h2, e⟩ := hk _ hx
        injection e with _ e
        subst e
        simp
        omega
  obtain ⟨es, clock, hb, F, hs, rfl⟩ := h
  refine ⟨es, clock, hb, F, ?_, rfl⟩
  have e1 : es.size = (intKeys (DataW.map ((es.toList.map (Go.WideElems.rg Tryz.prog 3 (plainElem (H := Unit) Tryz.prog 28))).foldr DataW.insert []))).length := by
    simp [intKeys, length_sorted]
  rw [e1, ← hp.length_eq]
  exact Nat.le_trans (List.length_filter_le _ _) (by decide)
end

/-- Later worlds of a region that lays a map's entries: what lies below b0 stays; a map of those entries keeps what it has. -/
structure BelM (z : Int → Int) (b0 : Nat) (B : Nat) (a w : World) : Prop where
  os : w.os = a.os
  tape : w.tape = a.tape
  output : w.output = a.output
  size : a.heap.size ≤ w.heap.size
  low : ∀ b, b < B → b < b0 → w.heap[b]? = a.heap[b]?
  maps : ∀ b, b < B → GoodM z a b → GoodM z w b ∧ ∀ k, HasM a b k → HasM w b k
section
variable {z : Int → Int} {b0 B : Nat} {a w w' : World}
theorem BelM.of_below (h : Below w.heap.size w w') : BelM z b0 w.heap.size w w' :=
  ⟨h.os, h.tape, h.output, h.size, fun b hb _ => h.block b hb, fun b hb hg => ⟨hg.congr (h.block b hb), fun k hk => hk.congr (h.block b hb)⟩⟩
theorem BelM.below (h : BelM z b0 B a w) (hB : b0 ≤ B) : Below b0 a w := ⟨h.os, h.tape, h.output, h.size, fun b hb => h.low b (by omega) hb⟩
theorem BelM.rel (z : Int → Int) (b0 : Nat) : Rel (BelM z b0) where
  refl := fun B w => ⟨rfl, rfl, rfl, Nat.le_refl _, fun _ _ _ => rfl, fun _ _ h => ⟨h, fun _ h => h⟩⟩
  trans := fun h k => ⟨k.os.trans h.os, k.tape.trans h.tape, k.output.trans h.output, Nat.le_trans h.size k.size, fun b hb hb0 => (k.low b hb hb0).trans (h.low b hb hb0), fun b hb hg =>
    ⟨(k.maps b hb (h.maps b hb hg).1).1, fun x hx => (k.maps b hb (h.maps b hb hg).1).2 x ((h.maps b hb hg).2 x hx)⟩⟩
  mono := fun h hb => ⟨h.os, h.tape, h.output, h.size, fun b hb' => h.low b (by omega), fun b hb' => h.maps b (by omega)⟩
  size := fun h => h.size
  drew := fun B w => ⟨rfl, rfl, rfl, Nat.le_refl _, fun _ _ _ => rfl, fun _ _ h => ⟨h, fun _ h => h⟩⟩
end

set_option maxRecDepth 100000 in
/-- The store of an entry. -/
theorem insert_run {z : Int → Int} {w : World} {b b0 : Nat} {k : Int} (hG : GoodM z w b) (hb0 : b0 ≤ b) (hk1 : 1 ≤ k) (hk2 : k ≤ 9) (hwf : (Lit.int .i64 (z k)).wf = true) :
    ∃ w', (Instr.mapUpdate 120 (.map (some b)) (.int .i64 k) (.int .i64 (z k))).run Tryz.prog w = .ok () w' ∧ GoodM z w' b ∧ HasM w' b k ∧ BelM z b0 w.heap.size w w' := by
  obtain ⟨D, n, ho, h1, h2⟩ := hG
  have ho9 := OM.small ho h1
  have hkey : keyOf Tryz.prog 3 (.int .i64 k) = some (.int .i64 k) := keyOf_int_mk Tryz.underlying3 (wf_i64 (by omega) (by omega))
  have hm := World.ownsMap.isMap ho9
  have hkl := intKeyed.key hkey
  obtain ⟨w', hrun, ho', hg⟩ := World.ownsMap.update ho9 intKeyed Tryz.underlying120 (by decide) hkey (plainElem_errno hwf)
  have hgood : GoodM z w' b := by
    refine ⟨_, _, ho', fun x hx => ?_, fun j hj d => ?_⟩
    · by_cases e : x = .int .i64 k
      · exact ⟨k, hk1, hk2, e⟩
      · rw [has_put_other e] at hx; exact h1 x hx
    · by_cases e : (Lit.int .i64 j) = .int .i64 k
      · injection e with _ e; subst e; rw [atKey_put_same hm hkl]
      · rw [has_put_other e] at hj; rw [atKey_put_other e, h2 j hj]
  have hhas : ∀ j, (j = k ∨ HasM w b j) → HasM w' b j := by
    rintro j hj
    refine ⟨_, _, ho', ?_⟩
    by_cases e : (Lit.int .i64 j) = .int .i64 k
    · rw [e, has_put_same hm hkl]
    · rcases hj with rfl | ⟨D', n', ho2, hh⟩
      · exact absurd rfl e
      · rw [has_put_other e, OM.det ho ho2]; exact hh
  refine ⟨w', hrun, hgood, hhas k (.inl rfl), hg.os, hg.tape, hg.output, hg.size, fun b' hb' hlt => hg.block b' hb' (fun e => by injection e; omega), fun b' hb' hG' => ?_⟩
  by_cases e : b' = b
  · subst e
    exact ⟨hgood, fun j hj => hhas j (.inr hj)⟩
  · have hs := hg.block b' hb' (fun e' => e (by injection e'))
    exact ⟨hG'.congr hs, fun j hj => hj.congr hs⟩

/-- At the end all entries are there. -/
theorem mapZ_of {z : Int → Int} {w : World} {b : Nat} (hG : GoodM z w b) (hH : ∀ k, 1 ≤ k → k ≤ 9 → HasM w b k) :
    MapZ w b 9 [(1, z 1), (2, z 2), (3, z 3), (4, z 4), (5, z 5), (6, z 6), (7, z 7), (8, z 8), (9, z 9)] := by
  obtain ⟨D, n, ho, h1, h2⟩ := hG
  have hh : ∀ k, 1 ≤ k → k ≤ 9 → Go.Maps.has D (.int .i64 k) = true := fun k a c => by
    obtain ⟨D', n', ho', h⟩ := hH k a c
    rw [OM.det ho ho']; exact h
  refine ⟨D, OM.small ho h1, fun x => ⟨fun hx => ?_, ?_⟩, ?_⟩
  · obtain ⟨k, ha, hc, rfl⟩ := h1 x hx
    obtain h | h | h | h | h | h | h | h | h : k = 1 ∨ k = 2 ∨ k = 3 ∨ k = 4 ∨ k = 5 ∨ k = 6 ∨ k = 7 ∨ k = 8 ∨ k = 9 := by omega
    all_goals subst h; simp
  · rintro ⟨p, hp, rfl⟩
    simp only [List.mem_cons, List.not_mem_nil, or_false] at hp
    rcases hp with rfl | rfl | rfl | rfl | rfl | rfl | rfl | rfl | rfl
    all_goals exact hh _ (by simp) (by simp)
  · intro p hp d
    simp only [List.mem_cons, List.not_mem_nil, or_false] at hp
    rcases hp with rfl | rfl | rfl | rfl | rfl | rfl | rfl | rfl | rfl
    all_goals exact h2 _ (hh _ (by simp) (by simp)) d

open FreeG in
/-- The fact of the map itself, and of an entry. -/
def MkF (z : Int → Int) (b0 : Nat) (v : Value) (w : World) : Prop := ∃ b, v = .map (some b) ∧ b0 ≤ b ∧ GoodM z w b
def EnF (k : Int) (z : Int → Int) (u _v : Value) (w : World) : Prop := ∀ b, u = .map (some b) → GoodM z w b ∧ HasM w b k
theorem MkF.lasts (z : Int → Int) (b0 : Nat) : (FreeG.Fct.has (MkF z b0)).lasts (BelM z b0) := fun _ _ _ ⟨b, e, h, hg⟩ hb => ⟨b, e, h, (hb.maps b hg.lt hg).1⟩
theorem EnF.lasts (j : Nat) (k : Int) (z : Int → Int) (b0 : Nat) : (FreeG.Fct.fro j (EnF k z)).lasts (BelM z b0) := fun _ _ _ _ h hb b e => ⟨(hb.maps b (h b e).1.lt (h b e).1).1, (hb.maps b (h b e).1.lt (h b e).1).2 k (h b e).2⟩
theorem step_insert {ops : Array Oper} {W0 : World} {o : Oper} {vs : List Value} {gs : List FreeG.Fct} {a : Act} {z : Int → Int} {b0 : Nat} (jm : Nat) (k : Int) (hw : Region.wanted o (yielded ops a.tmps) = true) (mo x vo : Operand) (hop : o.op = Op.insert 120 mo x vo)
    (hdep : depB o jm = true) (hvs : vs[jm]? = some (FreeG.env vs jm)) (hgs : gs[jm]? = some (FreeG.Fct.has (MkF z b0))) (hm : a.eval mo = FreeG.env vs jm) (hx : a.eval x = .int .i64 k) (hv : a.eval vo = .int .i64 (z k)) (hk1 : 1 ≤ k) (hk2 : k ≤ 9) (hwf : (Lit.int .i64 (z k)).wf = true) :
    FreeG.Step1 (BelM z b0) Tryz.prog ops W0 o (FreeG.Fct.fro jm (EnF k z)) vs gs a := by
  intro w hb hd K Q' hK
  obtain ⟨b, e, hb0, hG⟩ : MkF z b0 (FreeG.env vs jm) w := hd jm _ _ hdep hvs hgs
  obtain ⟨w', hrun, h1, h2, h3⟩ := insert_run (b0 := b0) hG hb0 hk1 hk2 hwf
  rw [if_pos hw]
  unfold Oper.wp
  simp [execOp, hop, hm, e, hx, hv, hrun, Result.andThen]
  exact hK.out undef _ _ rfl h3 fun b' e' => by rw [e] at e'; injection e' with e'; injection e' with e'; subst e'; exact ⟨h1, h2⟩
end Go.Proofs.YtmbpjafiinfkkaaGreatDoor
