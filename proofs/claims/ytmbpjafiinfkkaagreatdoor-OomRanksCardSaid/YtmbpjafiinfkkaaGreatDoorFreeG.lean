/- A region that draws its order (as XFree), over any relation of later worlds, and with facts that name the value of an operation that was waited for. Written by gen_freeg.py. -/
import Derived.Test.YtmbpjafiinfkkaaGreatDoorFree
namespace Go.Proofs.YtmbpjafiinfkkaaGreatDoor
set_option linter.unusedSimpArgs false
set_option linter.unusedVariables false
open Go.RowKit Go.Maps

/-- A relation of later worlds: what lies below a bound is kept in the relation's sense. -/
structure Rel (R : Nat → World → World → Prop) : Prop where
  refl : ∀ B w, R B w w
  trans : ∀ {B : Nat} {a b c : World}, R B a b → R B b c → R B a c
  mono : ∀ {B B' : Nat} {a w : World}, R B' a w → B ≤ B' → R B a w
  size : ∀ {B : Nat} {a w : World}, R B a w → a.heap.size ≤ w.heap.size
  drew : ∀ B w, R B w w.drew
namespace FreeG
/-- What is known of the value that an operation leaves: the value itself, or a fact that stands in every later world, or one that names the value of operation j too. -/
inductive Fct where
  | is (u : Value)
  | has (ψ : Value → World → Prop)
  | fro (j : Nat) (ψ : Value → Value → World → Prop)
def Fct.at_ : Fct → (Nat → Value) → Value → World → Prop
  | .is u, _, v, _ => v = u
  | .has ψ, _, v, w => ψ v w
  | .fro j ψ, e, v, w => ψ (e j) v w
def Fct.ref : Fct → Option Nat
  | .fro j _ => some j
  | _ => none
def Fct.lasts (R : Nat → World → World → Prop) : Fct → Prop
  | .is _ => True
  | .has ψ => ∀ v w w', ψ v w → R w.heap.size w w' → ψ v w'
  | .fro _ ψ => ∀ u v w w', ψ u v w → R w.heap.size w w' → ψ u v w'
theorem Fct.keeps {R : Nat → World → World → Prop} {f : Fct} (h : f.lasts R) {e : Nat → Value} {v : Value} {w w' : World} (hv : f.at_ e v w) (hb : R w.heap.size w w') : f.at_ e v w' := by
  cases f with
  | is u => exact hv
  | has ψ => exact h v w w' hv hb
  | fro j ψ => exact h (e j) v w w' hv hb
theorem Fct.at_congr {f : Fct} {e e' : Nat → Value} {v : Value} {w : World} (h : ∀ k, f.ref = some k → e' k = e k) (hv : f.at_ e v w) : f.at_ e' v w := by
  cases f with
  | is u => exact hv
  | has ψ => exact hv
  | fro j ψ => show ψ (e' j) v w; rw [h j rfl]; exact hv
def env (vs : List Value) (k : Nat) : Value := vs.getD k undef
theorem env_range (vals : Nat → Value) {n k : Nat} (h : k < n) : env ((List.range n).map vals) k = vals k := by
  unfold env
  rw [List.getD_eq_getElem?_getD, List.getElem?_map, List.getElem?_range h]
  rfl
/-- Whoever names another's value waits for it. -/
def froB (ops : Array Oper) (rs : List (Option Nat)) : Bool :=
  (List.range ops.size).all fun i => match rs[i]?, ops[i]? with
    | some (some k), some o => depB o k && decide (k < i)
    | _, _ => true
def FroOk (ops : Array Oper) (Fs : List Fct) : Prop := ∀ (i k : Nat) (f : Fct), i < ops.size → Fs[i]? = some f → f.ref = some k → (∃ oj, ops[i]? = some oj ∧ ∃ e ∈ oj.after, Region.binds .any e = true ∧ e.on = k) ∧ k < i
theorem froB_ok {ops : Array Oper} {Fs : List Fct} (h : froB ops (Fs.map Fct.ref) = true) : FroOk ops Fs := by
  intro i k f hi hf hk
  have h1 := List.all_eq_true.1 h i (List.mem_range.2 hi)
  rw [List.getElem?_map, hf, Array.getElem?_eq_getElem hi] at h1
  simp only [Option.map_some, hk, Bool.and_eq_true, decide_eq_true_eq] at h1
  refine ⟨⟨_, Array.getElem?_eq_getElem hi, ?_⟩, h1.2⟩
  have h2 := h1.1
  unfold depB at h2
  obtain ⟨e, he, hbe⟩ := List.any_eq_true.1 h2
  simp only [Bool.and_eq_true, beq_iff_eq] at hbe
  exact ⟨e, by simpa using he, hbe.1, hbe.2⟩

section
variable {P : Program} {ops : Array Oper} {W0 : World} {Q : Exit → Act → World → Prop} {R : Nat → World → World → Prop}
/-- One operation, in whatever world may stand there. -/
def Step1 (R : Nat → World → World → Prop) (P : Program) (ops : Array Oper) (W0 : World) (o : Oper) (f : Fct) (vs : List Value) (gs : List Fct) (a : Act) : Prop :=
  ∀ w, R W0.heap.size W0 w → (∀ (j : Nat) (v : Value) (g : Fct), depB o j = true → vs[j]? = some v → gs[j]? = some g → g.at_ (env vs) v w) →
    ∀ (K : Act → World → Prop) (Q' : Exit → Act → World → Prop), Shut (∀ v a' w', a' = a.put o.dst v → R w.heap.size w w' → f.at_ (env vs) v w' → K a' w') →
      if Region.wanted o (yielded ops a.tmps) = true then Oper.wp P o a w K Q' else K (a.put o.dst undef) w
/-- The operations from here on, in the order of the text. -/
def Chain (R : Nat → World → World → Prop) (P : Program) (ops : Array Oper) (W0 : World) (Q : Exit → Act → World → Prop) : List Oper → List Fct → List Value → List Fct → Act → Prop
  | [], [], vs, gs, a => ∀ w, R W0.heap.size W0 w → (∀ (j : Nat) (v : Value) (g : Fct), vs[j]? = some v → gs[j]? = some g → g.at_ (env vs) v w) → Q .normal a w
  | o :: os, .is u :: fs, vs, gs, a => Step1 R P ops W0 o (.is u) vs gs a ∧ Chain R P ops W0 Q os fs (vs ++ [u]) (gs ++ [.is u]) (a.put o.dst u)
  | o :: os, .has ψ :: fs, vs, gs, a => Step1 R P ops W0 o (.has ψ) vs gs a ∧ ∀ v, Chain R P ops W0 Q os fs (vs ++ [v]) (gs ++ [.has ψ]) (a.put o.dst v)
  | o :: os, .fro j ψ :: fs, vs, gs, a => Step1 R P ops W0 o (.fro j ψ) vs gs a ∧ ∀ v, Chain R P ops W0 Q os fs (vs ++ [v]) (gs ++ [.fro j ψ]) (a.put o.dst v)
  | _, _, _, _, _ => False

theorem chain_len : ∀ (os : List Oper) (fs : List Fct) (vs : List Value) (gs : List Fct) (a : Act), Chain R P ops W0 Q os fs vs gs a → os.length = fs.length
  | [], [], _, _, _, _ => rfl
  | [], _ :: _, _, _, _, h => by cases h
  | _ :: _, [], _, _, _, h => by cases h
  | _ :: os, .is u :: fs, vs, gs, a, h => by simp [chain_len os fs _ _ _ h.2]
  | _ :: os, .has ψ :: fs, vs, gs, a, h => by simp [chain_len os fs _ _ _ (h.2 undef)]
  | _ :: os, .fro j ψ :: fs, vs, gs, a, h => by simp [chain_len os fs _ _ _ (h.2 undef)]
theorem chain_cons {o : Oper} {os : List Oper} {f : Fct} {fs : List Fct} {vs : List Value} {gs : List Fct} {a : Act} (h : Chain R P ops W0 Q (o :: os) (f :: fs) vs gs a) :
    Step1 R P ops W0 o f vs gs a ∧ ∀ v, (∀ u, f = .is u → v = u) → Chain R P ops W0 Q os fs (vs ++ [v]) (gs ++ [f]) (a.put o.dst v) := by
  cases f with
  | is u => exact ⟨h.1, fun v hv => by obtain rfl := hv u rfl; exact h.2⟩
  | has ψ => exact ⟨h.1, fun v _ => h.2 v⟩
  | fro j ψ => exact ⟨h.1, fun v _ => h.2 v⟩
theorem chain_to {Fs : List Fct} {a0 : Act} (h : Chain R P ops W0 Q ops.toList Fs [] [] a0) (vals : Nat → Value) (hv : ∀ j u, Fs[j]? = some (.is u) → vals j = u) :
    ∀ i, i ≤ ops.size → Chain R P ops W0 Q (ops.toList.drop i) (Fs.drop i) ((List.range i).map vals) (Fs.take i) (putL ops a0 vals (fun _ => true) i)
  | 0, _ => by simpa [putL] using h
  | i + 1, hi => by
    have ih := chain_to h vals hv i (by omega)
    have hlen : ops.size = Fs.length := by simpa using chain_len _ _ _ _ _ h
    rw [List.drop_eq_getElem_cons (l := ops.toList) (i := i) (by simp; omega), List.drop_eq_getElem_cons (l := Fs) (i := i) (by omega)] at ih
    have h2 := (chain_cons ih).2 (vals i) (fun u hu => hv i u (by rw [List.getElem?_eq_getElem (by omega), hu]))
    rw [List.range_succ, List.map_append, List.take_succ_eq_append_getElem (by omega)]
    have hd : dstOf ops i = (ops.toList[i]'(by simp; omega)).dst := by
      unfold dstOf
      rw [Array.getElem?_eq_getElem (by omega)]
      simp
    unfold putL
    rw [if_pos rfl, hd]
    exact h2

theorem look_same {a b : Act} {o : Oper} (hs : ∀ cs c, o.op ≠ .select cs c) (h : ∀ t ∈ o.looksAt ops, a.tmps[t]? = b.tmps[t]?) :
    execOp a.eval o = execOp b.eval o ∧ Region.wanted o (yielded ops a.tmps) = Region.wanted o (yielded ops b.tmps) := by
  constructor
  · refine execOp_congr o hs fun x hx => ?_
    cases x with
    | tmp t =>
      have := h t (List.mem_append_left _ (List.mem_filterMap.2 ⟨.tmp t, by simpa using hx, rfl⟩))
      simp [Act.eval, this]
    | _ => rfl
  · unfold Region.wanted
    cases hg : o.guard with
    | none => rfl
    | some gw =>
      obtain ⟨g, want⟩ := gw
      have hy : yielded ops a.tmps g = yielded ops b.tmps g := by
        unfold yielded
        cases ht : (ops[g]?).bind (·.dst) with
        | none => rfl
        | some t =>
          have := h t (by simp [Oper.looksAt, hg, ht])
          simp [this]
      simp only [hy]

theorem actput_same {a b : Act} (h : a.tmps.size = b.tmps.size) (d : Option Tmp) (u v : Value) (e : b.put d u = b.put d v) : a.put d u = a.put d v := by
  cases d with
  | none => rfl
  | some d =>
    simp only [Act.put, Act.mk.injEq, and_true] at e ⊢
    by_cases hd : d < b.tmps.size
    · have := congrArg (·[d]?) e
      simp [hd] at this
      rw [this]
    · rw [Array.setIfInBounds_eq_of_size_le (by rw [h]; exact Nat.le_of_not_lt hd), Array.setIfInBounds_eq_of_size_le (by rw [h]; exact Nat.le_of_not_lt hd)]

/-- What is run in one frame is run so in another that shows the operation the same. -/
theorem wp_swap {o : Oper} {a b : Act} {w : World} {G : Value → World → Prop} (he : execOp a.eval o = execOp b.eval o) (hz : a.tmps.size = b.tmps.size)
    (h : Oper.wp P o b w (fun a' w' => ∃ v, a' = b.put o.dst v ∧ G v w') (fun _ _ _ => False)) :
    Oper.wp P o a w (fun a' w' => ∃ v, a' = a.put o.dst v ∧ G v w') Q := by
  unfold Oper.wp at *
  rw [he]
  generalize (execOp b.eval o).run P w = r at *
  have key : ∀ u w', (∃ v, b.put o.dst u = b.put o.dst v ∧ G v w') → ∃ v, a.put o.dst u = a.put o.dst v ∧ G v w' := fun u w' ⟨v, e, g⟩ => ⟨v, actput_same hz _ _ _ e, g⟩
  cases r with
  | ok n w' =>
    cases n <;> simp only [Oper.upon] at h ⊢
    case value u => exact key _ _ h
    case skip => exact key _ _ h
    case defer d =>
      obtain ⟨v, e, _⟩ := h
      have := congrArg (fun x : Act => x.defers.length) e
      cases hd : o.dst <;> simp [Act.put, hd] at this
    case enter f args =>
      refine Calls.mono h fun e w'' hh => ?_
      cases e with
      | returned u => exact key _ _ hh
      | panicked c => exact hh.elim
      | outgrown => exact absurd hh (by simp [LetsOut])
    case row row args => exact Rows.mono h fun u w'' hh => key _ _ hh
  | halt x w' =>
    cases x <;> simp only [Oper.upon] at h ⊢

theorem chain_any {Fs : List Fct} (hR : Rel R) (hfr : FroOk ops Fs) (hsel : Region.noSelect ops = true) (hf : freeB ops = true) (hL : ∀ f ∈ Fs, f.lasts R) {a0 : Act} (h : Chain R P ops W0 Q ops.toList Fs [] [] a0) :
    ∀ (fuel : Nat) (listed : Array Bool) (vals : Nat → Value) (w : World), listed.size = ops.size → cntL (fun j => listed.getD j false) ops.size ≤ fuel →
      (∀ j u, Fs[j]? = some (.is u) → vals j = u) → (∀ j o, ops[j]? = some o → listed.getD j false = true → ∀ e ∈ o.after, Region.binds .any e = true → listed.getD e.on false = true) →
      R W0.heap.size W0 w → (∀ j g, listed.getD j false = true → Fs[j]? = some g → g.at_ vals (vals j) w) →
      wpAny P .any ops Q fuel listed (putL ops a0 vals (fun j => listed.getD j false) ops.size) w := by
  have hlen : ops.size = Fs.length := by simpa using chain_len _ _ _ _ _ h
  have hfr' : ∀ (i k : Nat) (f : Fct), Fs[i]? = some f → f.ref = some k → (∃ oj, ops[i]? = some oj ∧ ∃ e ∈ oj.after, Region.binds .any e = true ∧ e.on = k) ∧ k < i := fun i k f hf => hfr i k f (by have := (List.getElem?_eq_some_iff.1 hf).1; omega) hf
  have fin : ∀ (listed : Array Bool) (vals : Nat → Value) (w : World), (∀ j, j < ops.size → listed.getD j false = true) → (∀ j u, Fs[j]? = some (.is u) → vals j = u) → R W0.heap.size W0 w → (∀ j g, listed.getD j false = true → Fs[j]? = some g → g.at_ vals (vals j) w) →
      Q .normal (putL ops a0 vals (fun j => listed.getD j false) ops.size) w := by
    intro listed vals w hall hv hb hg
    have hc := chain_to h vals hv ops.size (Nat.le_refl _)
    rw [List.drop_of_length_le (by simp), List.drop_of_length_le (by omega), List.take_of_length_le (by omega)] at hc
    rw [putL_congr (ops := ops) a0 (vals := vals) (vals' := vals) (l := fun j => listed.getD j false) (l' := fun _ => true) ops.size (fun j hj => ⟨hall j hj, fun _ => rfl⟩)]
    refine hc w hb fun j v g hj hgj => ?_
    have hjl : j < ops.size := by have := (List.getElem?_eq_some_iff.1 hj).1; simpa using this
    rw [List.getElem?_map, List.getElem?_range hjl] at hj
    simp at hj
    subst hj
    refine Fct.at_congr (fun k hk => ?_) (hg j g (hall j hjl) hgj)
    have hkj := (hfr' _ _ _ hgj hk).2
    rw [env_range vals (by omega)]
  intro fuel
  induction fuel with
  | zero =>
    intro listed vals w hs hcnt hv hdown hb hg
    have hall := cntL_zero (Nat.le_zero.1 hcnt)
    refine ⟨?_, fin listed vals w hall hv hb hg⟩
    refine List.eq_nil_iff_forall_not_mem.2 fun i hi => ?_
    obtain ⟨h0, o, ho, _⟩ := mem_ready.1 hi
    have hi' : i < ops.size := (Array.getElem?_eq_some_iff.1 ho).1
    have := hall i hi'
    simp [show i < listed.size by omega] at h0 this
    rw [h0] at this
    cases this
  | succ fuel ih =>
    intro listed vals w hs hcnt hv hdown hb hg
    refine ⟨fun hr => ?_, fun i hi => ?_⟩
    · refine fin listed vals w ?_ hv hb hg
      intro j
      induction j using Nat.strongRecOn with
      | _ j ihj =>
        intro hj
        by_cases hl : listed.getD j false = true
        · exact hl
        · have hm : j ∈ Region.ready .any ops listed := by
            refine mem_ready.2 ⟨by simp [show j < listed.size by omega] at hl ⊢; exact hl, ops[j], Array.getElem?_eq_getElem hj, fun e he hbn => ?_⟩
            have he' := freeB_edge hf (Array.getElem?_eq_getElem hj) he hbn
            exact ihj e.on he' (by omega)
          rw [hr] at hm
          cases hm
    · obtain ⟨h0, o, ho, hall⟩ := mem_ready.1 hi
      have hi' : i < ops.size := (Array.getElem?_eq_some_iff.1 ho).1
      have hun : listed.getD i false = false := by simp [show i < listed.size by omega] at h0 ⊢; exact h0
      have hc := chain_to h vals hv i (by omega)
      rw [List.drop_eq_getElem_cons (l := ops.toList) (i := i) (by simp; omega), List.drop_eq_getElem_cons (l := Fs) (i := i) (by omega)] at hc
      have hst := (chain_cons hc).1
      have hoi : ops.toList[i]'(by simp; omega) = o := by
        rw [Array.getElem?_eq_getElem hi'] at ho
        simpa using ho
      rw [hoi] at hst
      have hfi : Fs[i]? = some (Fs[i]'(by omega)) := List.getElem?_eq_getElem (by omega)
      have hdep : ∀ j, depB o j = true → listed.getD j false = true := by
        intro j hj
        unfold depB at hj
        obtain ⟨e, he, hbe⟩ := List.any_eq_true.1 hj
        simp only [Bool.and_eq_true, beq_iff_eq] at hbe
        have := hall e (by simpa using he) hbe.1
        rw [hbe.2] at this
        exact this
      have hsame : ∀ t ∈ o.looksAt ops, (putL ops a0 vals (fun j => listed.getD j false) ops.size).tmps[t]? = (putL ops a0 vals (fun _ => true) i).tmps[t]? := by
        intro t ht
        rw [← putL_to a0 vals i ops.size (by omega)]
        refine putL_look a0 vals _ _ t ops.size fun j hj hd => ?_
        unfold dstOf at hd
        obtain ⟨oj, hoj, hdj⟩ := Option.bind_eq_some_iff.1 hd
        by_cases hij : i = j
        · subst hij
          simp [hun]
        · rcases (freeB_pair hf ho hoj hij hdj).2 ht with ⟨h1, h2⟩ | ⟨h1, h2⟩
          · rw [hdep j h2, decide_eq_true h1]
          · rw [decide_eq_false (by omega)]
            by_cases hlj : listed.getD j false = true
            · exfalso
              unfold depB at h2
              obtain ⟨e, he, hbe⟩ := List.any_eq_true.1 h2
              simp only [Bool.and_eq_true, beq_iff_eq] at hbe
              have := hdown j oj hoj hlj e (by simpa using he) hbe.1
              rw [hbe.2, hun] at this
              cases this
            · simpa using hlj
      obtain ⟨hex, hwa⟩ := look_same (Region.noSelect_spec hsel i o · · ho) hsame
      have hsz : (putL ops a0 vals (fun j => listed.getD j false) ops.size).tmps.size = (putL ops a0 vals (fun _ => true) i).tmps.size := by rw [putL_size, putL_size]
      have hdi : dstOf ops i = o.dst := by unfold dstOf; rw [ho]; rfl
      -- behind the operation
      have next : ∀ v w', R w.heap.size w w' → (Fs[i]'(by omega)).at_ (env ((List.range i).map vals)) v w' →
          wpAny P .any ops Q fuel (listed.setIfInBounds i true) ((putL ops a0 vals (fun j => listed.getD j false) ops.size).put o.dst v) w' := by
        intro v w' hbw hfv
        rw [← hdi, putL_put hf a0 vals _ i v hun ops.size hi' (Nat.le_refl _)]
        have hl : (fun j => (listed.setIfInBounds i true).getD j false) = upd (fun j => listed.getD j false) i true := by
          funext j
          unfold upd
          by_cases hji : j = i
          · subst hji; simp [show j < listed.size by omega]
          · rw [if_neg hji, getD_set_ne false (Ne.symm hji)]
        rw [← hl]
        have hbW : R W0.heap.size W0 w' := hR.trans hb (hR.mono hbw (hR.size hb))
        refine ih (listed.setIfInBounds i true) (upd vals i v) w' (by simpa using hs) ?_ ?_ ?_ hbW ?_
        · rw [hl]
          have := cntL_upd (l := fun j => listed.getD j false) hun ops.size hi'
          omega
        · intro j u hju
          unfold upd
          by_cases hji : j = i
          · subst hji
            rw [if_pos rfl]
            rw [hfi] at hju
            injection hju with hju
            rw [hju] at hfv
            exact hfv
          · rw [if_neg hji]; exact hv j u hju
        · intro j oj hoj hlj e he hbe
          by_cases hji : j = i
          · subst hji
            rw [ho] at hoj
            injection hoj with hoj
            subst hoj
            exact getD_set_true (hall e he hbe)
          · rw [getD_set_ne false (Ne.symm hji)] at hlj
            exact getD_set_true (hdown j oj hoj hlj e he hbe)
        · intro j g hlj hgj
          unfold upd
          by_cases hji : j = i
          · subst hji
            rw [if_pos rfl]
            rw [hfi] at hgj
            injection hgj with hgj
            rw [← hgj]
            refine Fct.at_congr (fun k hk => ?_) hfv
            have hki := (hfr' _ _ _ hfi hk).2
            show (if k = j then v else vals k) = _
            rw [env_range vals hki, if_neg (by omega)]
          · rw [if_neg hji]
            rw [getD_set_ne false (Ne.symm hji)] at hlj
            refine Fct.at_congr (fun k hk => ?_) (Fct.keeps (hL g (List.mem_of_getElem? hgj)) (hg j g hlj hgj) hbw)
            have hdk := (hfr' _ _ _ hgj hk).1
            obtain ⟨oj, hoj, e, he, hbe, hke⟩ := hdk
            have hlk := hdown j oj hoj hlj e he hbe
            rw [hke] at hlk
            show (if k = i then v else vals k) = _
            rw [if_neg (fun hki : k = i => by rw [hki, hun] at hlk; cases hlk)]
      have hrun := hst w hb (fun j v g hj hvj hgj => by
          have hji : j < i := by have := (List.getElem?_eq_some_iff.1 hvj).1; simpa using this
          rw [List.getElem?_map, List.getElem?_range hji] at hvj
          simp at hvj
          subst hvj
          rw [List.getElem?_take_of_lt hji] at hgj
          exact Fct.at_congr (fun k hk => by rw [env_range vals (by have := (hfr' _ _ _ hgj hk).2; omega)]) (hg j g (hdep j hj) hgj))
        (fun a' w' => ∃ v, a' = (putL ops a0 vals (fun _ => true) i).put o.dst v ∧ (R w.heap.size w w' ∧ (Fs[i]'(by omega)).at_ (env ((List.range i).map vals)) v w')) (fun _ _ _ => False)
        (show Shut _ from fun v a' w' e h1 h2 => ⟨v, e, h1, h2⟩)
      refine wpOp_step ho fun K' hK => ?_
      rw [hwa]
      split
      · rename_i hw
        rw [if_pos hw] at hrun
        refine Oper.wp_mono (fun a' w' ⟨v, e, h1, h2⟩ => ?_) (wp_swap (Q := Q) hex hsz hrun)
        rw [e]
        exact hK _ _ (next v w' h1 h2)
      · rename_i hw
        rw [if_neg hw] at hrun
        obtain ⟨v, e, h1, h2⟩ := hrun
        rw [actput_same hsz _ _ _ e]
        exact hK _ _ (next v w h1 h2)

theorem rep_false (n j : Nat) : (Array.replicate n false).getD j false = false := by
  rw [Array.getD_eq_getD_getElem?, Array.getElem?_replicate]
  split <;> rfl
/-- **THE BEGINNING**: from the world behind the draw. -/
theorem wp_region_chainG (hR : Rel R) {id : Nat} {a : Act} {w : World} (Fs : List Fct) (rs : List (Option Nat)) (hrs : Fs.map Fct.ref = rs) (hfr : froB ops rs = true) (hm : P.follows .mixedOrders = true) (hsel : Region.noSelect ops = true) (hf : freeB ops = true) (hL : ∀ f ∈ Fs, f.lasts R)
    (h0 : ∀ W0, R w.heap.size w W0 → W0.heap.size = w.heap.size → Chain R P ops W0 Q ops.toList Fs [] [] a) : (Code.region id ops true).wp P Q a w := by
  refine wp_region_any hm ?_
  have h := h0 w.drew (hR.drew _ _) rfl
  have := chain_any hR (froB_ok (by rw [hrs]; exact hfr)) hsel hf hL h ops.size (Array.replicate ops.size false) (fun j => match Fs[j]? with | some (.is u) => u | _ => undef) w.drew (by simp)
    (by
      rw [cntL_congr (l := fun j => (Array.replicate ops.size false).getD j false) (l' := fun _ => false) ops.size (fun j _ => rep_false _ _)]
      rw [cntL_none]; exact Nat.le_refl _)
    (fun j u hj => by rw [hj]) (fun j o _ hj => by rw [rep_false] at hj; cases hj) (hR.refl _ _) (fun j g hj => by rw [rep_false] at hj; cases hj)
  rw [show putL ops a (fun j => match Fs[j]? with | some (.is u) => u | _ => undef) (fun j => (Array.replicate ops.size false).getD j false) ops.size = a from ?_] at this
  · exact this
  · have : ∀ n, putL ops a (fun j => match Fs[j]? with | some (.is u) => u | _ => undef) (fun j => (Array.replicate ops.size false).getD j false) n = a := by
      intro n
      induction n with
      | zero => rfl
      | succ n ih => unfold putL; rw [if_neg (by rw [rep_false]; simp), ih]
    exact this _

theorem chain_is {o : Oper} {os : List Oper} {u : Value} {fs : List Fct} {vs : List Value} {gs : List Fct} {a : Act} (h1 : Step1 R P ops W0 o (.is u) vs gs a) (h2 : Chain R P ops W0 Q os fs (vs ++ [u]) (gs ++ [.is u]) (a.put o.dst u)) : Chain R P ops W0 Q (o :: os) (.is u :: fs) vs gs a := ⟨h1, h2⟩
theorem chain_has {o : Oper} {os : List Oper} {ψ : Value → World → Prop} {fs : List Fct} {vs : List Value} {gs : List Fct} {a : Act} (h1 : Step1 R P ops W0 o (.has ψ) vs gs a) (h2 : ∀ v, Chain R P ops W0 Q os fs (vs ++ [v]) (gs ++ [.has ψ]) (a.put o.dst v)) : Chain R P ops W0 Q (o :: os) (.has ψ :: fs) vs gs a := ⟨h1, h2⟩
/-- An operation that yields one value wherever it may stand. -/
theorem step_take (hR : Rel R) {o : Oper} {u : Value} {vs : List Value} {gs : List Fct} {a : Act} (hw : Region.wanted o (yielded ops a.tmps) = true)
    (h : ∀ w, R W0.heap.size W0 w → (∀ (j : Nat) (v : Value) (g : Fct), depB o j = true → vs[j]? = some v → gs[j]? = some g → g.at_ (env vs) v w) → (execOp a.eval o).run P w = .ok (.value u) w) : Step1 R P ops W0 o (.is u) vs gs a := by
  intro w hb hd K Q' hK
  rw [if_pos hw]
  unfold Oper.wp
  rw [h w hb hd]
  exact hK.out _ _ _ rfl (hR.refl _ _) rfl
/-- The same over a value that is known by a fact alone. -/
theorem step_takeH (hR : Rel R) {o : Oper} {ψ : Value → World → Prop} {vs : List Value} {gs : List Fct} {a : Act} (hw : Region.wanted o (yielded ops a.tmps) = true)
    (h : ∀ w, R W0.heap.size W0 w → (∀ (j : Nat) (v : Value) (g : Fct), depB o j = true → vs[j]? = some v → gs[j]? = some g → g.at_ (env vs) v w) → ∃ u, (execOp a.eval o).run P w = .ok (.value u) w ∧ ψ u w) : Step1 R P ops W0 o (.has ψ) vs gs a := by
  intro w hb hd K Q' hK
  obtain ⟨u, hu, hp⟩ := h w hb hd
  rw [if_pos hw]
  unfold Oper.wp
  rw [hu]
  exact hK.out _ _ _ rfl (hR.refl _ _) hp
/-- An operation that a guard strikes out. -/
theorem step_un (hR : Rel R) {o : Oper} {vs : List Value} {gs : List Fct} {a : Act} (hw : Region.wanted o (yielded ops a.tmps) = false) : Step1 R P ops W0 o (.is undef) vs gs a := by
  intro w hb hd K Q' hK
  rw [if_neg (by rw [hw]; simp)]
  exact hK.out _ _ _ rfl (hR.refl _ _) rfl
theorem lasts_nil : ∀ f ∈ ([] : List Fct), f.lasts R := fun _ h => by cases h
theorem lasts_is {u : Value} {fs : List Fct} (h : ∀ f ∈ fs, f.lasts R) : ∀ f ∈ (Fct.is u :: fs), f.lasts R := fun f hf => by
  rcases List.mem_cons.1 hf with rfl | hf
  · trivial
  · exact h f hf
theorem lasts_has {ψ : Value → World → Prop} {fs : List Fct} (h1 : (Fct.has ψ).lasts R) (h : ∀ f ∈ fs, f.lasts R) : ∀ f ∈ (Fct.has ψ :: fs), f.lasts R := fun f hf => by
  rcases List.mem_cons.1 hf with rfl | hf
  · exact h1
  · exact h f hf
theorem lasts_fro {j : Nat} {ψ : Value → Value → World → Prop} {fs : List Fct} (h1 : (Fct.fro j ψ).lasts R) (h : ∀ f ∈ fs, f.lasts R) : ∀ f ∈ (Fct.fro j ψ :: fs), f.lasts R := fun f hf => by
  rcases List.mem_cons.1 hf with rfl | hf
  · exact h1
  · exact h f hf
theorem chain_fro {o : Oper} {os : List Oper} {j : Nat} {ψ : Value → Value → World → Prop} {fs : List Fct} {vs : List Value} {gs : List Fct} {a : Act} (h1 : Step1 R P ops W0 o (.fro j ψ) vs gs a) (h2 : ∀ v, Chain R P ops W0 Q os fs (vs ++ [v]) (gs ++ [.fro j ψ]) (a.put o.dst v)) : Chain R P ops W0 Q (o :: os) (.fro j ψ :: fs) vs gs a := ⟨h1, h2⟩
theorem step_takeF (hR : Rel R) {o : Oper} {j : Nat} {ψ : Value → Value → World → Prop} {vs : List Value} {gs : List Fct} {a : Act} (hw : Region.wanted o (yielded ops a.tmps) = true)
    (h : ∀ w, R W0.heap.size W0 w → (∀ (j : Nat) (v : Value) (g : Fct), depB o j = true → vs[j]? = some v → gs[j]? = some g → g.at_ (env vs) v w) → ∃ u, (execOp a.eval o).run P w = .ok (.value u) w ∧ ψ (env vs j) u w) : Step1 R P ops W0 o (.fro j ψ) vs gs a := by
  intro w hb hd K Q' hK
  obtain ⟨u, hu, hp⟩ := h w hb hd
  rw [if_pos hw]
  unfold Oper.wp
  rw [hu]
  exact hK.out _ _ _ rfl (hR.refl _ _) hp
/-- A guarded operation, on both ways at once. -/
theorem step_gd (hR : Rel R) {o : Oper} {u : Value} {vs : List Value} {gs : List Fct} {a : Act} {c : Prop} [Decidable c] (hw : c ↔ Region.wanted o (yielded ops a.tmps) = true)
    (h : c → ∀ w, R W0.heap.size W0 w → (∀ (j : Nat) (v : Value) (g : Fct), depB o j = true → vs[j]? = some v → gs[j]? = some g → g.at_ (env vs) v w) → (execOp a.eval o).run P w = .ok (.value u) w) : Step1 R P ops W0 o (.is (if c then u else undef)) vs gs a := by
  by_cases hc : c
  · rw [if_pos hc]
    exact step_take hR (hw.1 hc) (h hc)
  · rw [if_neg hc]
    refine step_un hR ?_
    cases hh : Region.wanted o (yielded ops a.tmps) with
    | false => rfl
    | true => exact absurd (hw.2 hh) hc
theorem chain_end {vs : List Value} {gs : List Fct} {a : Act} (h : ∀ w, R W0.heap.size W0 w → (∀ (j : Nat) (v : Value) (g : Fct), vs[j]? = some v → gs[j]? = some g → g.at_ (env vs) v w) → Q .normal a w) : Chain R P ops W0 Q [] [] vs gs a := h
end

end FreeG
end Go.Proofs.YtmbpjafiinfkkaaGreatDoor
