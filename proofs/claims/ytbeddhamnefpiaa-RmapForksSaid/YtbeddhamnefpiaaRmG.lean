/- Sets of mappings: rmap's gather, list, keyOf, mapping. -/
import Derived.Test.YtbeddhamnefpiaaRmS
import Derived.Sort.Statements
import Derived.Test.YtbeddhamnefpiaaSetM
namespace Go.Proofs.Ytbeddhamnefpiaa
set_option linter.unusedSimpArgs false
set_option linter.unusedVariables false
open Go.RowKit Go.Maps
open Go.Sort

/-- The order of mappings. -/
def ltM (x y : M3) : Bool := decide (x.1 < y.1 ∨ (x.1 = y.1 ∧ (x.2.1 < y.2.1 ∨ (x.2.1 = y.2.1 ∧ x.2.2 < y.2.2))))
theorem ltM_iff (x y : M3) : ltM x y = true ↔ (x.1 < y.1 ∨ (x.1 = y.1 ∧ (x.2.1 < y.2.1 ∨ (x.2.1 = y.2.1 ∧ x.2.2 < y.2.2)))) := by simp [ltM]
theorem ltM_false (x y : M3) : ltM x y = false ↔ ¬(x.1 < y.1 ∨ (x.1 = y.1 ∧ (x.2.1 < y.2.1 ∨ (x.2.1 = y.2.1 ∧ x.2.2 < y.2.2)))) := by
  rw [← ltM_iff]; simp
theorem swoM : SWO ltM where
  irrefl x := by rw [ltM_false]; omega
  trans x y z h1 h2 := by rw [ltM_iff] at *; omega
  ntrans x y z h1 h2 := by rw [ltM_false] at *; omega
theorem totM (x y : M3) (h1 : ltM x y = false) (h2 : ltM y x = false) : x = y := by
  rw [ltM_false] at *
  exact Prod.ext (by omega) (Prod.ext (by omega) (by omega))
/-- A list of mappings, sorted. -/
def srtM (l : List M3) : List M3 := l.mergeSort fun x y => !ltM y x
theorem srtM_len (l : List M3) : (srtM l).length = l.length := by simp [srtM]

/-- Frame, process and page are in their ranges. -/
def okM (m : M3) : Bool := decide (0 ≤ m.1 ∧ m.1 < 256) && okP m.2
theorem okM_iff (m : M3) : okM m = true ↔ (0 ≤ m.1 ∧ m.1 < 256) ∧ (1 ≤ m.2.1 ∧ m.2.1 ≤ 8) ∧ 0 ≤ m.2.2 ∧ m.2.2 < 64 := by
  unfold okM
  rw [Bool.and_eq_true, okP_iff, decide_eq_true_eq]
theorem keyArr : Go.WideMaps.ArrKey Try.prog 83 3 2 := ⟨Try.underlying83, plain_int, by kernel_rfl, by kernel_rfl⟩
theorem keyK : Keyed Try.prog 83 := Keyed.of_law keyArr.law
/-- A mapping's key. -/
def kvM (m : M3) : Value := .agg #[.int .i64 m.1, .int .i64 (m.2.1 * 64 + m.2.2)]
def klM (m : M3) : Lit := .string (keyBytes [.int .i64 m.1, .int .i64 (m.2.1 * 64 + m.2.2)])
theorem key_lit {m : M3} (h : okM m = true) : keyOf Try.prog 83 (kvM m) = some (klM m) := by
  rw [okM_iff] at h
  exact Go.WideMaps.keyOf_pair keyArr Try.underlying3 ⟨Try.prog.types.size - 1, by kernel_rfl⟩ (WalkArith.wf_i64 (by omega)) (WalkArith.wf_i64 (by omega))
theorem kvM_inj {m m' : M3} (h : okM m = true) (h' : okM m' = true) (e : kvM m = kvM m') : m = m' := by
  rw [okM_iff] at h h'
  simp only [kvM, Value.agg.injEq, Array.mk.injEq, List.cons.injEq, Value.int.injEq, true_and, and_true] at e
  exact Prod.ext e.1 (Prod.ext (by omega) (by omega))
theorem klM_inj {m m' : M3} (h : okM m = true) (h' : okM m' = true) (e : klM m = klM m') : m = m' :=
  kvM_inj h h' (keyK.inj (key_lit h) (by rw [key_lit h', e]))
/-- Block B is a set of just the mappings of l. -/
def SetP (w : World) (B n : Nat) (l : List M3) : Prop := SetB w 83 B n (fun z => ∃ m ∈ l, z = klM m) ∧ ∀ m ∈ l, okM m = true
section
variable {w w' : World} {B n : Nat} {l : List M3}
theorem SetP.kept {row : Option Nat} (h : SetP w B n l) (hg : w.grownBy w' row) (hne : some B ≠ row) : SetP w' B n l := ⟨h.1.kept hg hne, h.2⟩
theorem SetP.below_ {C : Nat} (h : SetP w B n l) (hb : Below C w w') (hB : B < C) : SetP w' B n l := ⟨h.1.below_ hb hB, h.2⟩
theorem SetP.lt (h : SetP w B n l) : B < w.heap.size := h.1.lt
theorem SetP.mono (h : SetP w B n l) {n' : Nat} (hn : n ≤ n') : SetP w B n' l := ⟨h.1.mono hn, h.2⟩
theorem SetP.congr {l' : List M3} (h : SetP w B n l) (e : ∀ m, m ∈ l ↔ m ∈ l') : SetP w B n l' :=
  ⟨h.1.congr fun z => ⟨fun ⟨m, a, b⟩ => ⟨m, (e m).1 a, b⟩, fun ⟨m, a, b⟩ => ⟨m, (e m).2 a, b⟩⟩, fun m hm => h.2 m ((e m).2 hm)⟩
theorem SetP.new_ (w : World) : SetP (w.alloc (.map #[] 0)) w.heap.size 0 [] := ⟨(SetB.new_ w _).congr fun z => by simp, by simp⟩
end
theorem wpList_putP {ops : Array Oper} {rest : List Oper} {o : Oper} {a : Act} {Z : Exit → Act → World → Prop} (w : World) (hg : o.guard = none) (m x v : Operand) (hop : o.op = Op.mapUpdate 80 m x v)
    (B n : Nat) (l : List M3) (hm : a.eval m = .map (some B)) (h : SetP w B n l) (hn : n < 100000) (y : M3) (hy : okM y = true) (hx : a.eval x = kvM y) (hv : a.eval v = .bool true)
    (hK : ∀ w', SetP w' B (n + 1) (y :: l) → w.grownBy w' (some B) → wpList Try.prog ops Z rest (a.put o.dst undef) w') : wpList Try.prog ops Z (o :: rest) a w :=
  wpList_setPut w hg m x v _ hop _ keyK Try.underlying80 B n _ hm h.1 (by unfold maxLen; omega) _ _ hx hv (key_lit hy) fun w' h1 h2 =>
    hK w' ⟨h1.congr fun z => by simp, fun m hm => by
      rcases List.mem_cons.1 hm with rfl | hm
      · exact hy
      · exact h.2 m hm⟩ h2
theorem wpList_delP {ops : Array Oper} {rest : List Oper} {o : Oper} {a : Act} {Z : Exit → Act → World → Prop} (w : World) (hg : o.guard = none) (m x : Operand) (hop : o.op = Op.call { callee := Callee.builtin Builtin.delete, args := #[m, x], argTypes := #[80, 83] })
    (B n : Nat) (l : List M3) (hm : a.eval m = .map (some B)) (h : SetP w B n l) (y : M3) (hy : okM y = true) (hx : a.eval x = kvM y)
    (hK : ∀ w', SetP w' B n (l.filter (fun m => decide (m ≠ y))) → w.grownBy w' (some B) → wpList Try.prog ops Z rest (a.put o.dst (.tuple #[])) w') : wpList Try.prog ops Z (o :: rest) a w :=
  wpList_setDel w hg m x _ _ hop keyK Try.underlying80 B n _ hm h.1 _ _ hx (key_lit hy) fun w' h1 h2 =>
    hK w' ⟨h1.congr fun z => by
      constructor
      · rintro ⟨⟨m, h3, rfl⟩, h4⟩
        exact ⟨m, List.mem_filter.2 ⟨h3, by simpa using fun e => h4 (by rw [e])⟩, rfl⟩
      · rintro ⟨m, h3, rfl⟩
        have h5 := List.mem_filter.1 h3
        exact ⟨⟨m, h5.1, rfl⟩, fun e => by simpa [klM_inj (h.2 m h5.1) hy e] using h5.2⟩, fun m hm => h.2 m (List.mem_filter.1 hm).1⟩ h2

/-- Ascending, none twice. -/
def Asc (l : List M3) : Prop := l.Pairwise fun x y => ltM x y = true
theorem ltM_irrefl (x : M3) : ltM x x = false := swoM.irrefl x
theorem ltM_trans {x y z : M3} (h : ltM x y = true) (k : ltM y z = true) : ltM x z = true := swoM.trans x y z h k
theorem Asc.nodup {l : List M3} (h : Asc l) : l.Nodup := h.imp fun {a b} h e => by rw [e, ltM_irrefl] at h; cases h
theorem asc_eq : ∀ (l l' : List M3), Asc l → Asc l' → (∀ x, x ∈ l ↔ x ∈ l') → l = l'
  | [], [], _, _, _ => rfl
  | [], b :: t, _, _, h => absurd ((h b).2 (by simp)) (by simp)
  | a :: s, [], _, _, h => absurd ((h a).1 (by simp)) (by simp)
  | a :: s, b :: t, h1, h2, h => by
    have p1 := List.pairwise_cons.1 h1
    have p2 := List.pairwise_cons.1 h2
    have irr : ∀ x : M3, ltM x x = true → False := fun x h => by rw [ltM_irrefl] at h; cases h
    have e : a = b := by
      have ha := (h a).1 (by simp)
      have hb := (h b).2 (by simp)
      rcases List.mem_cons.1 ha with e | ha
      · exact e
      · rcases List.mem_cons.1 hb with e | hb
        · exact e.symm
        · exact (irr a (ltM_trans (p1.1 b hb) (p2.1 a ha))).elim
    subst e
    rw [asc_eq s t p1.2 p2.2 fun x => ?_]
    constructor
    · intro hx
      rcases List.mem_cons.1 ((h x).1 (List.mem_cons_of_mem _ hx)) with e | hx'
      · subst e; exact (irr x (p1.1 x hx)).elim
      · exact hx'
    · intro hx
      rcases List.mem_cons.1 ((h x).2 (List.mem_cons_of_mem _ hx)) with e | hx'
      · subst e; exact (irr x (p2.1 x hx)).elim
      · exact hx'
theorem srtM_asc {l : List M3} (h : l.Nodup) : Asc (srtM l) := by
  have h1 : (srtM l).Pairwise fun x y => (!ltM y x) = true := List.pairwise_mergeSort (fun a b c h1 h2 => by
    simp only [Bool.not_eq_true'] at *
    exact swoM.ntrans c b a h2 h1) (fun a b => by
    cases h : ltM b a with
    | false => rfl
    | true =>
      cases h' : ltM a b with
      | false => rfl
      | true => have := ltM_trans h h'; rw [ltM_irrefl] at this; cases this) l
  have h2 : (srtM l).Nodup := ((List.mergeSort_perm l _).nodup_iff).2 h
  unfold Asc
  refine (h1.and h2).imp fun {a b} ⟨h3, h4⟩ => ?_
  cases h5 : ltM a b with
  | true => rfl
  | false => exact absurd (totM a b h5 (by simpa using h3)) h4
theorem srtM_eq {xs ys : List M3} (h : xs.Nodup) (ha : Asc ys) (hm : ∀ m, m ∈ xs ↔ m ∈ ys) : srtM xs = ys :=
  asc_eq _ _ (srtM_asc h) ha fun m => by rw [← hm m]; exact (List.mergeSort_perm xs _).mem_iff

set_option maxHeartbeats 1000000 in
theorem keyOf_any (m : M3) (h : okM m = true) (w : World) : Calls Try.prog 56 #[.agg #[.int .i64 m.1, .int .i64 m.2.1, .int .i64 m.2.2]] w fun e w' => e = .returned (kvM m) ∧ Below w.heap.size w w' := by
  rw [okM_iff] at h
  have h1 : IntKind.i64.wrap (m.2.1 * 64) = m.2.1 * 64 := IntWalk.i64_in _ (by omega)
  have h2 : IntKind.i64.wrap (m.2.1 * 64 + m.2.2) = m.2.1 * 64 + m.2.2 := IntWalk.i64_in _ (by omega)
  go_enter Try.func56, Try.ntmps56
  go_wp2
  refine bodyPost_ret (v := .agg #[.int .i64 m.1, .int .i64 (m.2.1 * 64 + m.2.2)]) (by simp [results, Try.results56, go_sem]) rfl ?_
  exact ⟨rfl, (by repeat' (first | with_reducible exact Below.refl _ _ | with_reducible assumption | with_reducible apply Below.drew | with_reducible apply below_drewN | with_reducible apply Below.alloc | with_reducible apply Below.setCell | (with_reducible refine Below.trans ?_ (Below.mono (by assumption) ?_)) | (simp; done) | (simp; omega) | omega | with_reducible apply le_size_alloc | with_reducible apply le_size_drewN | with_reducible apply le_size_drew | with_reducible apply le_size_setCell | refine Nat.le_trans ?_ (Below.size (by assumption))))⟩
set_option maxHeartbeats 1000000 in
theorem mapping_any (m : M3) (h : okM m = true) (w : World) : Calls Try.prog 65 #[.agg #[.int .i64 m.1, .int .i64 (m.2.1 * 64 + m.2.2)]] w fun e w' => e = .returned (.agg #[.int .i64 m.1, .int .i64 m.2.1, .int .i64 m.2.2]) ∧ Below w.heap.size w w' := by
  rw [okM_iff] at h
  obtain ⟨f, p, q⟩ := m
  dsimp only at h ⊢
  have h1 : (p * 64 + q).tdiv 64 = p := by rw [Int.tdiv_eq_ediv_of_nonneg (by omega)]; omega
  have h2 : (p * 64 + q).tmod 64 = q := by rw [Int.tmod_eq_emod_of_nonneg (by omega)]; omega
  go_enter Try.func65, Try.ntmps65
  go_wp2
  refine bodyPost_ret (v := .agg #[.int .i64 f, .int .i64 p, .int .i64 q]) (by simp [results, Try.results65, go_sem]) rfl ?_
  exact ⟨rfl, (by repeat' (first | with_reducible exact Below.refl _ _ | with_reducible assumption | with_reducible apply Below.drew | with_reducible apply below_drewN | with_reducible apply Below.alloc | with_reducible apply Below.setCell | (with_reducible refine Below.trans ?_ (Below.mono (by assumption) ?_)) | (simp; done) | (simp; omega) | omega | with_reducible apply le_size_alloc | with_reducible apply le_size_drewN | with_reducible apply le_size_drew | with_reducible apply le_size_setCell | refine Nat.le_trans ?_ (Below.size (by assumption))))⟩
end Go.Proofs.Ytbeddhamnefpiaa
