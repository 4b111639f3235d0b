/- Package oom: a set of ints; Yield. No statement is proved here. -/
import Derived.Test.YtmbpjafiinfkkaaGreatDoorOM
namespace Go.Proofs.YtmbpjafiinfkkaaGreatDoor
set_option linter.unusedSimpArgs false
set_option linter.unusedVariables false
open Go.RowKit Go.Maps

/-- Block B is a set of just the ints of S. -/
def SetI (w : World) (B n : Nat) (S : Int → Prop) : Prop := SetB w 3 B n (fun z => ∃ i, S i ∧ z = .int .i64 i)
section
variable {w w' : World} {B n : Nat} {S : Int → Prop}
theorem SetI.new_ (w : World) : SetI (w.alloc (.map #[] 0)) w.heap.size 0 (fun _ => False) := (SetB.new_ w _).congr fun z => by simp
theorem SetI.lt (h : SetI w B n S) : B < w.heap.size := SetB.lt h
theorem SetI.below_ {C : Nat} (h : SetI w B n S) (hb : Below C w w') (hB : B < C) : SetI w' B n S := SetB.below_ h hb hB
theorem SetI.ext (h : SetI w B n S) (hb : Below w.heap.size w w') : SetI w' B n S := h.below_ hb h.lt
theorem SetI.mono {n' : Nat} (h : SetI w B n S) (hn : n ≤ n') : SetI w B n' S := SetB.mono h hn
theorem SetI.congr {S' : Int → Prop} (h : SetI w B n S) (e : ∀ i, S i ↔ S' i) : SetI w B n S' :=
  SetB.congr h fun z => ⟨fun ⟨i, a, b⟩ => ⟨i, (e i).1 a, b⟩, fun ⟨i, a, b⟩ => ⟨i, (e i).2 a, b⟩⟩
theorem SetI.len (h : SetI w B n S) {ss : List Int} (ha : ss.Pairwise (· < ·)) (hs : ∀ j, j ∈ ss ↔ S j) (ty : TypeId) : (Builtin.len_ #[92] ty #[.map (some B)]).run Tryz.prog w = .ok (.int .i64 (ss.length : Nat)) w := by
  obtain ⟨D, h, h1, _⟩ := h
  have hk : keysS D = ss := keysS_eq h ha fun x => by
    rw [h1, hs]
    constructor
    · intro hx; exact ⟨x, hx, rfl⟩
    · rintro ⟨i, hi, e⟩
      injection e with _ e
      rw [e]; exact hi
  have h3 : (keysS D).length = Go.Maps.size D := by
    unfold keysS srt
    rw [List.length_mergeSort, size_intKeys h]
  rw [h.len Tryz.underlying92 ty, ← h3, hk]
end
theorem Sl.grownS {w w' : World} {A : Option Addr} {l : List Int} (h : Sl w (.int .i64) A l) {row : Option Nat} (hg : w.grownBy w' row) (hne : 0 < l.length → ∀ g, row = some g → A.map (·.block) ≠ some g) : Sl w' (.int .i64) A l := fun hp => by
  obtain ⟨b, off, e, hb, hc⟩ := h hp
  have hk : some b ≠ row := fun er => hne hp b er.symm (by rw [e]; rfl)
  refine ⟨b, off, e, Nat.lt_of_lt_of_le hb hg.size, fun j u hu => ?_⟩
  have h1 := hc j u hu
  unfold World.cell? at h1 ⊢
  rw [hg.block b hb hk]
  exact h1
theorem wpList_putS {ops : Array Oper} {rest : List Oper} {o : Oper} {a : Act} {Z : Exit → Act → World → Prop} (w : World) (hg : o.guard = none) (m x v : Operand) (hop : o.op = Op.mapUpdate 92 m x v)
    (B n : Nat) (S : Int → Prop) (hm : a.eval m = .map (some B)) (h : SetI w B n S) (hn : n < 100000) (y : Int) (hy : (Lit.int .i64 y).wf = true) (hx : a.eval x = .int .i64 y) (hv : a.eval v = .bool true)
    (hK : ∀ w', SetI w' B (n + 1) (fun j => S j ∨ j = y) → w.grownBy w' (some B) → wpList Tryz.prog ops Z rest (a.put o.dst undef) w') : wpList Tryz.prog ops Z (o :: rest) a w :=
  wpList_setPut w hg m x v _ hop _ intKeyed Tryz.underlying92 B n _ hm h (by unfold maxLen; omega) _ _ hx hv (key_i hy) fun w' h1 h2 =>
    hK w' (SetB.congr h1 fun z => by
      constructor
      · rintro (rfl | ⟨i, hi, rfl⟩)
        · exact ⟨y, .inr rfl, rfl⟩
        · exact ⟨i, .inl hi, rfl⟩
      · rintro ⟨i, hi | rfl, rfl⟩
        · exact .inr ⟨i, hi, rfl⟩
        · exact .inl rfl) h2
theorem wpList_delS {ops : Array Oper} {rest : List Oper} {o : Oper} {a : Act} {Z : Exit → Act → World → Prop} (w : World) (hg : o.guard = none) (m x : Operand) (hop : o.op = Op.call { callee := Callee.builtin Builtin.delete, args := #[m, x], argTypes := #[92, 3] })
    (B n : Nat) (S : Int → Prop) (hm : a.eval m = .map (some B)) (h : SetI w B n S) (y : Int) (hy : (Lit.int .i64 y).wf = true) (hx : a.eval x = .int .i64 y)
    (hK : ∀ w', SetI w' B n (fun j => S j ∧ j ≠ y) → w.grownBy w' (some B) → wpList Tryz.prog ops Z rest (a.put o.dst (.tuple #[])) w') : wpList Tryz.prog ops Z (o :: rest) a w :=
  wpList_setDel w hg m x _ _ hop intKeyed Tryz.underlying92 B n _ hm h _ _ hx (key_i hy) fun w' h1 h2 =>
    hK w' (SetB.congr h1 fun z => by
      constructor
      · rintro ⟨⟨i, hi, rfl⟩, hne⟩
        exact ⟨i, ⟨hi, fun e => hne (by rw [e])⟩, rfl⟩
      · rintro ⟨i, ⟨hi, hne⟩, rfl⟩
        exact ⟨⟨i, hi, rfl⟩, fun e => hne (by injection e)⟩) h2

set_option maxRecDepth 100000 in
set_option maxHeartbeats 2000000 in
theorem setAdd_any (B n : Nat) (S : Int → Prop) (A : Option Addr) (c : Nat) (xs : List Int) (w : World) (base : Nat) (hbB : base ≤ B) (hm : SetI w B n S) (hn : n + xs.length ≤ 1000) (hs : Sl w (.int .i64) A xs) (hA : ∀ b, A.map (·.block) = some b → b ≠ B) (hw : ∀ x ∈ xs, (Lit.int .i64 x).wf = true) :
    Calls Tryz.prog 57 #[.map (some B), .slice A xs.length c] w fun e w' => e = .returned (.tuple #[]) ∧ SetI w' B (n + xs.length) (fun j => S j ∨ j ∈ xs) ∧ Below base w w' := by
  have HM := Lib.hid hm
  have HS := Lib.hid hs
  have HW := Lib.hid hw
  have hBl := hm.lt
  clear hm hs hw
  go_enter Tryz.func57, Tryz.ntmps57
  go_wp2
  go_loopw [8] (fun i wr => ∃ k : Nat, k ≤ xs.length ∧ i = .int .i64 k ∧ Hid (SetI wr B (n + k) (fun j => S j ∨ j ∈ xs.take k)) ∧ Hid (Sl wr (.int .i64) A xs) ∧ Below base w wr) (fun i _ => xs.length - (intOf i).toNat)
  case atStart => exact ⟨0, by omega, rfl, HM.out.congr (fun j => by simp), HS.out, Below.refl _ _⟩
  case round =>
    obtain ⟨k, hk, rfl, HMr, HSr, hbw⟩ := hrel
    have zB := HMr.out.lt
    by_cases hlt : k < xs.length
    · obtain ⟨b, off, x, rfl, hbl, hx, hc⟩ := HSr.out.at_ hlt
      have i1 : (k : Int) < xs.length := by omega
      have hxw := HW.out x (List.mem_of_getElem? hx)
      have HT : Hid (xs.take (k + 1) = xs.take k ++ [x]) := take_snocG hx
      have hne : b ≠ B := hA b rfl
      clear hx
      go_wp2_with (at_mapUpdate; refine wpList_putS _ rfl _ _ _ rfl B (n + k) _ rfl HMr.out (by omega) x hxw rfl rfl ?_; intro w4 hm4 hg4)
      go_roundw
      case rel => exact ⟨k + 1, by omega, by go_num, hm4.congr (fun j => by rw [HT.out, List.mem_append, List.mem_singleton, or_assoc]), Sl.grownS HSr.out hg4 (fun _ g e e' => by cases e; exact hne (by injection e')), hbw.grown hg4 (by have := hbw.size; omega) (fun j hj => by cases hj; omega)⟩
      case measure => simp [intOf]; omega
    · obtain rfl : k = xs.length := by omega
      have HM2 : Hid (SetI wr B (n + xs.length) (fun j => S j ∨ j ∈ xs)) := HMr.out.congr fun j => by rw [List.take_length]
      clear HMr hlt
      go_wp2
      refine bodyPost_end (results_none rfl _ _ _) rfl ?_
      exact ⟨rfl, HM2.out, hbw⟩
set_option maxRecDepth 100000 in
set_option maxHeartbeats 2000000 in
theorem setRemove_any (B n : Nat) (S : Int → Prop) (x : Int) (w : World) (base : Nat) (hbB : base ≤ B) (hm : SetI w B n S) (hw : (Lit.int .i64 x).wf = true) :
    Calls Tryz.prog 59 #[.map (some B), .int .i64 x] w fun e w' => e = .returned (.tuple #[]) ∧ SetI w' B n (fun j => S j ∧ j ≠ x) ∧ Below base w w' ∧ w.grownBy w' (some B) := by
  have HM := Lib.hid hm
  have hBl := hm.lt
  clear hm
  go_enter Tryz.func59, Tryz.ntmps59
  go_wp2_with (at_delete; refine wpList_delS _ rfl _ _ rfl B n _ rfl HM.out x hw rfl ?_; intro w4 hm4 hg4)
  refine bodyPost_end (results_none rfl _ _ _) rfl ?_
  exact ⟨rfl, hm4, (Below.refl _ _).grown hg4 (by omega) (fun j hj => by cases hj; omega), hg4⟩
end Go.Proofs.YtmbpjafiinfkkaaGreatDoor
