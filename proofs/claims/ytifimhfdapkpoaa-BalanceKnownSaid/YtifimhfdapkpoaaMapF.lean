/- Maps with integer keys, known entry by entry: a store under a new key, a look-up with ok. -/
import Derived.Test.YtifimhfdapkpoaaMem
import Derived.MapKept
namespace Go.Proofs.Ytifimhfdapkpoaa
open Go.RowKit Go.Maps

/-- Block B is the map of the entries es (under integer keys), its clock cl. -/
def MapIs (w : World) (B : Nat) (es : Array MapEntry) (cl : Nat) : Prop := w.heap[B]? = some (.map es cl)
section
variable {P : Program} {w w' : World} {B cl : Nat} {es : Array MapEntry}
theorem MapIs.lt (h : MapIs w B es cl) : B < w.heap.size := (Array.getElem?_eq_some_iff.1 h).1
theorem MapIs.new_ (w : World) : MapIs (w.alloc (.map #[] 0)) w.heap.size #[] 0 := (Go.MapKept.heap_alloc w _).1
theorem MapIs.below_ {C : Nat} (h : MapIs w B es cl) (hb : Below C w w') (hB : B < C) : MapIs w' B es cl := (hb.block B hB).trans h
theorem MapIs.grown_ {row : Option Nat} (h : MapIs w B es cl) (hg : w.grownBy w' row) (hne : row ≠ some B) : MapIs w' B es cl := (hg.block B h.lt (fun e => hne e.symm)).trans h
/-- The world after a new entry. -/
def putMap (w : World) (B : Nat) (es : Array MapEntry) (cl : Nat) : World := { w with heap := w.heap.setIfInBounds B (.map es cl) }
theorem putMap_is (h : MapIs w B es cl) (es' : Array MapEntry) (cl' : Nat) : MapIs (putMap w B es' cl') B es' cl' := (Go.MapKept.heap_set h).1
theorem putMap_size (w : World) (B : Nat) (es : Array MapEntry) (cl : Nat) : (putMap w B es cl).heap.size = w.heap.size := by simp [putMap]
theorem putMap_grown (w : World) (B : Nat) (es : Array MapEntry) (cl : Nat) : w.grownBy (putMap w B es cl) (some B) :=
  ⟨rfl, rfl, rfl, by simp [putMap], fun k _ hne => by
    show (w.heap.setIfInBounds B _)[k]? = _
    rw [Array.getElem?_setIfInBounds_ne]
    rintro rfl
    exact hne rfl⟩
theorem run_put {T K E : TypeId} (hT : P.underlying T = some (.map K E)) (hK : P.underlying K = some (.int .i64)) (h : MapIs w B es cl) (k : Int) (u : Value) (hf : Instr.findNow (.int .i64) (.int .i64 k) es.toList 0 = some none) :
    (Instr.mapUpdate T (.map (some B)) (.int .i64 k) u).run P w = .ok () (putMap w B (es.push ⟨.int .i64 k, u, cl⟩) (cl + 1)) := by
  unfold Instr.mapUpdate
  simp only [Sem.run_bind, run_underlying hT, Result.andThen]
  simp only [Sem.run_bind, Go.MapKept.run_getObj_map h, Result.andThen, Go.MapKept.run_checkKey hK (show Go.MapKept.IsKey (.int .i64) (.int .i64 k) from by simp [Go.MapKept.IsKey]), Go.MapKept.run_findKey hK hf, Go.MapKept.run_setObj_map _ h]
  rfl
theorem wpList_ins {ops : Array Oper} {rest : List Oper} {o : Oper} {a : Act} {Q : Exit → Act → World → Prop} {T K E : TypeId}
    (hg : o.guard = none) (m x v : Operand) (hop : o.op = Op.insert T m x v) (hT : P.underlying T = some (.map K E)) (hK : P.underlying K = some (.int .i64)) (h : MapIs w B es cl) (k : Int) (u : Value)
    (hm : a.eval m = .map (some B)) (hx : a.eval x = .int .i64 k) (hv : a.eval v = u) (hf : Instr.findNow (.int .i64) (.int .i64 k) es.toList 0 = some none)
    (hk : wpList P ops Q rest (a.put o.dst undef) (putMap w B (es.push ⟨.int .i64 k, u, cl⟩) (cl + 1))) : wpList P ops Q (o :: rest) a w := by
  refine wpList_plain hg fun K' hK' => ?_
  have hrun := run_put (u := u) hT hK h k hf
  unfold Oper.wp
  simp [execOp, hop, hm, hx, hv, hrun, Result.andThen]
  exact hK' _ _ hk
theorem run_look_yes {T K E : TypeId} (hT : P.underlying T = some (.map K E)) (hK : P.underlying K = some (.int .i64)) (h : MapIs w B es cl) (k : Int) {i : Nat} {u : Value} (hf : Instr.findNow (.int .i64) (.int .i64 k) es.toList 0 = some (some (i, u))) :
    (Instr.lookup T (.map (some B)) (.int .i64 k) true).run P w = .ok (.tuple #[u, .bool true]) w := by
  unfold Instr.lookup
  simp only [Sem.run_bind, run_underlying hT, Result.andThen]
  simp only [Sem.run_bind, Go.MapKept.run_getObj_map h, Result.andThen, Go.MapKept.run_checkKey hK (show Go.MapKept.IsKey (.int .i64) (.int .i64 k) from by simp [Go.MapKept.IsKey]), Go.MapKept.run_findKey hK hf, Sem.run_pure]
  rfl
theorem run_look_no {T K E : TypeId} (hT : P.underlying T = some (.map K E)) (hK : P.underlying K = some (.int .i64)) (h : MapIs w B es cl) (k : Int) {z : Value} (hz : (zeroValue E).run P w = .ok z w) (hf : Instr.findNow (.int .i64) (.int .i64 k) es.toList 0 = some none) :
    (Instr.lookup T (.map (some B)) (.int .i64 k) true).run P w = .ok (.tuple #[z, .bool false]) w := by
  unfold Instr.lookup
  simp only [Sem.run_bind, run_underlying hT, Result.andThen]
  simp only [Sem.run_bind, Go.MapKept.run_getObj_map h, Result.andThen, Go.MapKept.run_checkKey hK (show Go.MapKept.IsKey (.int .i64) (.int .i64 k) from by simp [Go.MapKept.IsKey]), Go.MapKept.run_findKey hK hf, Sem.run_pure, hz]
  rfl
end
end Go.Proofs.Ytifimhfdapkpoaa
