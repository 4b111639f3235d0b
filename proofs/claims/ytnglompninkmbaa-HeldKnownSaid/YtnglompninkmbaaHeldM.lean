/- The map of package held: its keys are structs of two ints. A look-up, a store under a new key. -/
import Derived.Test.YtnglompninkmbaaMem
import Derived.MapKept
import Derived.WideKeyRuns
namespace Go.Proofs.Ytnglompninkmbaa
open Go.RowKit Go.Maps

theorem plain_int : Try.prog.plainKey 3 = true := by simp [Program.plainKey, Try.underlying3]
theorem part_int (w : World) (xs : Array Value) (i : Nat) (v : Value) (h : xs[i]? = some v) : (part 3 xs i).run Try.prog w = .ok v w := run_part_plain w plain_int h
theorem eqIn_int (w : World) (d : Nat) (a b : Int) : (Op.equalIn (d + 1) 3 (.int .i64 a) (.int .i64 b)).run Try.prog w = .ok (a == b) w := by
  simp [Op.equalIn, run_underlying Try.underlying3]

theorem eq_key (w : World) (a b c d : Int) : (Op.equal 64 (.agg #[.int .i64 a, .int .i64 b]) (.agg #[.int .i64 c, .int .i64 d])).run Try.prog w = .ok (a == c && b == d) w := by
  have hs : Try.prog.stoodInHeld 64 = false := by kernel_rfl
  have h0 := part_int w #[.int .i64 a, .int .i64 b] 0 (.int .i64 a) rfl
  have h1 := part_int w #[.int .i64 a, .int .i64 b] 1 (.int .i64 b) rfl
  have h2 := part_int w #[.int .i64 c, .int .i64 d] 0 (.int .i64 c) rfl
  have h3 := part_int w #[.int .i64 c, .int .i64 d] 1 (.int .i64 d) rfl
  have e1 := eqIn_int w 9998 a c
  have e2 := eqIn_int w 9998 b d
  unfold Op.equal
  show (Op.equalIn (9999 + 1) _ _ _).run _ _ = _
  unfold Op.equalIn
  simp only [Sem.run_bind, run_underlying Try.underlying64, Result.andThen_ok]
  simp [hs, h0, h1, h2, h3, e1, e2]
  by_cases h : a = c <;> by_cases h' : b = d <;> simp [h, h']

theorem check_int (w : World) (em : Bool) (n : Nat) (x : Int) : (Instr.checkKey em (n + 1) 3 (.int .i64 x)).run Try.prog w = .ok () w := by
  simp [Instr.checkKey, run_underlying Try.underlying3]
theorem check_key (w : World) (em : Bool) (a b : Int) : (Instr.checkKey em 10000 64 (.agg #[.int .i64 a, .int .i64 b])).run Try.prog w = .ok () w := by
  have h0 := part_int w #[.int .i64 a, .int .i64 b] 0 (.int .i64 a) rfl
  have h1 := part_int w #[.int .i64 a, .int .i64 b] 1 (.int .i64 b) rfl
  have e := fun x => check_int w em 9998 x
  show (Instr.checkKey em (9999 + 1) _ _).run _ _ = _
  unfold Instr.checkKey
  simp only [Sem.run_bind, run_underlying Try.underlying64, Result.andThen_ok]
  simp [h0, h1, e]

/-- A key as a value. -/
def kv (k : Int × Int) : Value := .agg #[.int .i64 k.1, .int .i64 k.2]
/-- An entry as a key and a value. -/
def ent (p : (Int × Int) × Int) : Value × Value := (kv p.1, .int .i64 p.2)
/-- Block B is the map of the entries m, the oldest first. -/
def MapK (w : World) (B : Nat) (m : List ((Int × Int) × Int)) : Prop := ∃ es cl, w.heap[B]? = some (.map es cl) ∧ es.toList.map (fun e => (e.key, e.val)) = m.map ent
section
variable {w w' : World} {B : Nat} {m : List ((Int × Int) × Int)}
theorem MapK.lt (h : MapK w B m) : B < w.heap.size := by
  obtain ⟨es, cl, h, _⟩ := h
  exact (Array.getElem?_eq_some_iff.1 h).1
theorem MapK.new_ (w : World) : MapK (w.alloc (.map #[] 0)) w.heap.size [] := ⟨#[], 0, (Go.MapKept.heap_alloc w _).1, rfl⟩
theorem MapK.below_ {C : Nat} (h : MapK w B m) (hb : Below C w w') (hB : B < C) : MapK w' B m := by
  obtain ⟨es, cl, h, e⟩ := h
  exact ⟨es, cl, (hb.block B hB).trans h, e⟩
theorem MapK.grown_ {row : Option Nat} (h : MapK w B m) (hg : w.grownBy w' row) (hne : row ≠ some B) : MapK w' B m := by
  have hl := h.lt
  obtain ⟨es, cl, h, e⟩ := h
  exact ⟨es, cl, (hg.block B hl (fun e => hne e.symm)).trans h, e⟩

/-- The number of the first entry of a key. -/
def placeOf (m : List ((Int × Int) × Int)) (k : Int × Int) : Nat := match m with | [] => 0 | p :: m => if k = p.1 then 0 else placeOf m k + 1
theorem find_ask (k : Int × Int) : ∀ (es : List MapEntry) (m : List ((Int × Int) × Int)) (i : Nat), es.map (fun e => (e.key, e.val)) = m.map ent →
    (Instr.findAsking 64 (kv k) es i).run Try.prog w = .ok ((m.lookup k).map (fun v => (i + placeOf m k, .int .i64 v))) w
  | [], [], i, _ => by simp [Instr.findAsking]
  | [], _ :: _, _, h => by simp at h
  | _ :: _, [], _, h => by simp at h
  | e :: es, p :: m, i, h => by
    obtain ⟨⟨a, b⟩, v⟩ := p
    simp only [List.map_cons, List.cons.injEq] at h
    obtain ⟨h1, h2⟩ := h
    obtain ⟨e1, e2⟩ := Prod.mk.injEq .. ▸ h1
    have hj := find_ask k es m (i + 1) h2
    have hq := eq_key w k.1 k.2 a b
    unfold Instr.findAsking
    rw [e1, e2]
    simp only [kv, Sem.run_bind]
    rw [hq]
    simp only [Result.andThen_ok]
    by_cases hk : k = (a, b)
    · subst hk
      simp [placeOf]
    · have hb : (k.1 == a && k.2 == b) = false := by
        simp only [Bool.and_eq_false_imp, beq_iff_eq, beq_eq_false_iff_ne, ne_eq]
        intro h1 h2
        exact hk (Prod.ext h1 h2)
      have hk' : (k == (a, b)) = false := by simpa using hk
      rw [hb]
      simp only [Bool.false_eq_true, if_false]
      rw [List.lookup_cons, hk']
      simp only [placeOf, if_neg hk]
      refine hj.trans ?_
      simp [Nat.add_assoc, Nat.add_comm 1]

theorem MapK.find (h : MapK w B m) (k : Int × Int) : ∃ es cl, w.heap[B]? = some (.map es cl) ∧ es.toList.map (fun e => (e.key, e.val)) = m.map ent ∧
    (Instr.findKey 64 (kv k) es.toList).run Try.prog w = .ok ((m.lookup k).map (fun v => (placeOf m k, .int .i64 v))) w := by
  obtain ⟨es, cl, h, e⟩ := h
  have hj := find_ask (w := w) k es.toList m 0 e
  simp only [Nat.zero_add] at hj
  exact ⟨es, cl, h, e, by rw [run_findKey_eq w (by rw [Try.underlying64])]; exact hj⟩

/-- 'i, ok := x[k]'. -/
def okOf (o : Option Int) : Value := match o with | some v => .tuple #[.int .i64 v, .bool true] | none => .tuple #[.int .i64 0, .bool false]
theorem run_lookK (h : MapK w B m) (k : Int × Int) : (Instr.lookup 52 (.map (some B)) (.agg #[.int .i64 k.1, .int .i64 k.2]) true).run Try.prog w = .ok (okOf (m.lookup k)) w := by
  obtain ⟨es, cl, hb, _, hf⟩ := h.find k
  have hz : (zeroValue 3).run Try.prog w = .ok (.int .i64 0) w := by first | exact Try.zeroValue3 w | simp [go_sem]
  unfold Instr.lookup
  simp only [Sem.run_bind, run_underlying Try.underlying52, Result.andThen_ok]
  simp only [Sem.run_bind, Go.MapKept.run_getObj_map hb, Result.andThen_ok, Sem.run_pure]
  rw [check_key]
  simp only [Result.andThen_ok]
  have hf' : (Instr.findKey 64 (.agg #[.int .i64 k.1, .int .i64 k.2]) es.toList).run Try.prog w = _ := hf
  rw [hf']
  cases hm : m.lookup k with
  | none => simp [okOf, hz]
  | some v => simp [okOf]

/-- The world after a new entry. -/
def putK (w : World) (B : Nat) (es : Array MapEntry) (cl : Nat) : World := { w with heap := w.heap.setIfInBounds B (.map es cl) }
theorem putK_grown (w : World) (B : Nat) (es : Array MapEntry) (cl : Nat) : w.grownBy (putK w B es cl) (some B) :=
  ⟨rfl, rfl, rfl, by simp [putK], fun k _ hne => by
    show (w.heap.setIfInBounds B _)[k]? = _
    rw [Array.getElem?_setIfInBounds_ne]
    rintro rfl
    exact hne rfl⟩
/-- The entries with a key at a value: at its place, or at the end. -/
def putL (m : List ((Int × Int) × Int)) (k : Int × Int) (i : Int) : List ((Int × Int) × Int) := match m with | [] => [(k, i)] | p :: m => if k = p.1 then (k, i) :: m else p :: putL m k i
theorem putL_none {k : Int × Int} (i : Int) : ∀ {m : List ((Int × Int) × Int)}, m.lookup k = none → putL m k i = m ++ [(k, i)]
  | [], _ => rfl
  | (a, v) :: m, h => by
    rw [List.lookup_cons] at h
    by_cases hk : k = a
    · simp [hk] at h
    · have hk' : (k == a) = false := by simpa using hk
      rw [hk'] at h
      simp only [putL, if_neg hk, List.cons_append]
      rw [putL_none i h]
theorem put_place {k : Int × Int} (i : Int) : ∀ (es : List MapEntry) (m : List ((Int × Int) × Int)), es.map (fun e => (e.key, e.val)) = m.map ent → (m.lookup k).isSome = true →
    (es.modify (placeOf m k) fun e => { e with key := kv k, val := .int .i64 i }).map (fun e => (e.key, e.val)) = (putL m k i).map ent ∧ (es[placeOf m k]?).map (·.key) = some (kv k)
  | _, [], _, h => by simp at h
  | [], _ :: _, h, _ => by simp at h
  | e :: es, (a, v) :: m, h, hl => by
    simp only [List.map_cons, List.cons.injEq] at h
    obtain ⟨h1, h2⟩ := h
    obtain ⟨e1, e2⟩ := Prod.mk.injEq .. ▸ h1
    by_cases hk : k = a
    · subst hk
      simp only [placeOf, if_true, putL]
      exact ⟨by simp [h2, ent], by simp [e1]⟩
    · rw [List.lookup_cons] at hl
      have hk' : (k == a) = false := by simpa using hk
      rw [hk'] at hl
      obtain ⟨r1, r2⟩ := put_place i es m h2 hl
      simp only [placeOf, if_neg hk, putL]
      exact ⟨by simp [r1, ent, e1, e2], by simpa using r2⟩
theorem stays_key (a b : Int) : (Instr.keyThatStays (.agg #[.int .i64 a, .int .i64 b]) (.agg #[.int .i64 a, .int .i64 b])).run Try.prog w = .ok (.agg #[.int .i64 a, .int .i64 b]) w := by
  have hs : ∀ n x, Instr.sameBits (n + 1) (.int .i64 x) (.int .i64 x) = true := fun n x => by simp [Instr.sameBits]
  have : Instr.sameBits 10000 (.agg #[.int .i64 a, .int .i64 b]) (.agg #[.int .i64 a, .int .i64 b]) = true := by
    show Instr.sameBits (9998 + 1 + 1) _ _ = true
    rw [Instr.sameBits]
    simp [hs]
  simp [Instr.keyThatStays, this]
theorem run_putK (h : MapK w B m) (k : Int × Int) (i : Int) :
    ∃ w', (Instr.mapUpdate 52 (.map (some B)) (.agg #[.int .i64 k.1, .int .i64 k.2]) (.int .i64 i)).run Try.prog w = .ok () w' ∧ MapK w' B (putL m k i) ∧ w.grownBy w' (some B) ∧ w'.heap.size = w.heap.size := by
  obtain ⟨es, cl, hb, he, hf'⟩ := h.find k
  have hf2 : (Instr.findKey 64 (.agg #[.int .i64 k.1, .int .i64 k.2]) es.toList).run Try.prog w = _ := hf'
  cases hf : m.lookup k with
  | none =>
    refine ⟨putK w B (es.push ⟨kv k, .int .i64 i, cl⟩) (cl + 1), ?_, ⟨_, _, (Go.MapKept.heap_set hb).1, ?_⟩, putK_grown _ _ _ _, by simp [putK]⟩
    · unfold Instr.mapUpdate
      simp only [Sem.run_bind, run_underlying Try.underlying52, Result.andThen_ok]
      simp only [Sem.run_bind, Go.MapKept.run_getObj_map hb, Result.andThen_ok]
      rw [check_key]
      simp only [Result.andThen_ok]
      rw [hf2, hf]
      simp only [Option.map_none, Result.andThen_ok]
      rw [Go.MapKept.run_setObj_map _ hb]
      rfl
    · rw [putL_none i hf]
      simp [he, ent]
  | some v =>
    obtain ⟨r1, r2⟩ := put_place (k := k) i es.toList m he (by rw [hf]; rfl)
    refine ⟨putK w B (es.modify (placeOf m k) fun e => { e with key := kv k, val := .int .i64 i }) cl, ?_, ⟨_, _, (Go.MapKept.heap_set hb).1, ?_⟩, putK_grown _ _ _ _, by simp [putK]⟩
    · have hg : ((es[placeOf m k]?).map (·.key)).getD (Value.agg #[.int .i64 k.1, .int .i64 k.2]) = .agg #[.int .i64 k.1, .int .i64 k.2] := by
        rw [Array.getElem?_toList] at r2
        rw [r2]; rfl
      unfold Instr.mapUpdate
      simp only [Sem.run_bind, run_underlying Try.underlying52, Result.andThen_ok]
      simp only [Sem.run_bind, Go.MapKept.run_getObj_map hb, Result.andThen_ok]
      rw [check_key]
      simp only [Result.andThen_ok]
      rw [hf2, hf]
      simp only [Option.map_some, Result.andThen_ok, Sem.run_bind]
      rw [hg, stays_key]
      simp only [Result.andThen_ok]
      rw [Go.MapKept.run_setObj_map _ hb]
      rfl
    · rw [Array.toList_modify]
      exact r1
end
end Go.Proofs.Ytnglompninkmbaa
