/- Contracts of lru.Order and lru.Last, and of the kit's Has. -/
import Derived.Test.YtifimhfdapkpoaaLruW
namespace Go.Proofs.Ytifimhfdapkpoaa
open Go.RowKit Go.Maps

/-- Three rows of the call's own and a variable (block R) that holds the second one. -/
structure PS (W : World) (base R : Nat) (A1 : Option Addr) (c1 : Nat) (A2 : Option Addr) (c2 : Nat) (A3 : Option Addr) (c3 : Nat) (ds ls xs : List Int) : Prop where
  d : Own W base 3 (.int .i64) (.slice A1 ds.length c1) ds
  l : Own W base 3 (.int .i64) (.slice A2 ls.length c2) ls
  o : Own W base 3 (.int .i64) (.slice A3 xs.length c3) xs
  dl : ∀ g, A1.map (·.block) = some g → A2.map (·.block) ≠ some g
  do_ : ∀ g, A1.map (·.block) = some g → A3.map (·.block) ≠ some g
  lo : ∀ g, A2.map (·.block) = some g → A3.map (·.block) ≠ some g
  blk : Blk W R 68 #[.slice A2 ls.length c2]
  f1 : A1.map (·.block) ≠ some R
  f2 : A2.map (·.block) ≠ some R
  f3 : A3.map (·.block) ≠ some R

section
variable {W w1 : World} {base R : Nat} {A1 A2 A3 : Option Addr} {c1 c2 c3 : Nat} {ds ls xs : List Int}
theorem PS.ext (h : PS W base R A1 c1 A2 c2 A3 c3 ds ls xs) (hb : Below W.heap.size W w1) : PS w1 base R A1 c1 A2 c2 A3 c3 ds ls xs :=
  ⟨h.d.below hb, h.l.below hb, h.o.below hb, h.dl, h.do_, h.lo, h.blk.below_ hb h.blk.lt, h.f1, h.f2, h.f3⟩
theorem PS.pop (h : PS W base R A1 c1 A2 c2 A3 c3 ds ls xs) {A : Option Addr} {c : Nat} {zs : List Int} (hg : W.grownBy w1 (A2.map (·.block))) (ho : Own w1 base 3 (.int .i64) (.slice A zs.length c) zs)
    (hl : A.map (·.block) = A2.map (·.block) ∨ ∃ g, A.map (·.block) = some g ∧ W.heap.size ≤ g) : PS (w1.setCell ⟨R, 0, none⟩ (.slice A zs.length c)) base R A1 c1 A c A3 c3 ds zs xs := by
  have hb1 := blk_grown h.blk hg h.f2
  have o1 := h.d.kept_ hg (row_ne (A := A2) (fun g e e1 => h.dl g e1 e) _ _)
  have o3 := h.o.kept_ hg (row_ne h.lo _ _)
  have n1 : A.map (·.block) ≠ some R := by
    rcases hl with e | ⟨g, e, hge⟩
    · rw [e]; exact h.f2
    · rw [e]; intro e'; injection e' with e'; have := h.blk.lt; omega
  refine ⟨o1.far_ _ _ h.f1, ho.far_ _ _ n1, o3.far_ _ _ h.f3, ?_, h.do_, ?_, ?_, h.f1, n1, h.f3⟩
  · intro g e e2
    rcases hl with e' | ⟨g', e', hge⟩
    · exact h.dl g e (e'.symm.trans e2)
    · have := (h.d.block g e).2; rw [e'] at e2; injection e2 with e2; omega
  · intro g e e2
    rcases hl with e' | ⟨g', e', hge⟩
    · exact h.lo g (e'.symm.trans e) e2
    · have := (h.o.block g e2).2; rw [e'] at e; injection e with e; omega
  · have := hb1.set_ 0 (.slice A zs.length c)
    simpa using this
theorem PS.app (h : PS W base R A1 c1 A2 c2 A3 c3 ds ls xs) {A : Option Addr} {c : Nat} {zs : List Int} (hg : W.grownBy w1 (A1.map (·.block))) (ho : Own w1 base 3 (.int .i64) (.slice A zs.length c) zs)
    (hl : A.map (·.block) = A1.map (·.block) ∨ ∃ g, A.map (·.block) = some g ∧ W.heap.size ≤ g) : PS w1 base R A c A2 c2 A3 c3 zs ls xs := by
  have n1 : A.map (·.block) ≠ some R := by
    rcases hl with e | ⟨g, e, hge⟩
    · rw [e]; exact h.f1
    · rw [e]; intro e'; injection e' with e'; have := h.blk.lt; omega
  refine ⟨ho, h.l.kept_ hg (row_ne h.dl _ _), h.o.kept_ hg (row_ne h.do_ _ _), ?_, ?_, h.lo, blk_grown h.blk hg h.f1, n1, h.f2, h.f3⟩
  · intro g e e2
    rcases hl with e' | ⟨g', e', hge⟩
    · exact h.dl g (e'.symm.trans e) e2
    · have := (h.l.block g e2).2; rw [e'] at e; injection e with e; omega
  · intro g e e2
    rcases hl with e' | ⟨g', e', hge⟩
    · exact h.do_ g (e'.symm.trans e) e2
    · have := (h.o.block g e2).2; rw [e'] at e; injection e with e; omega
/-- The next list is put into a new variable. -/
theorem PS.next (h : PS W base R A1 c1 A2 c2 A3 c3 ds ls xs) : PS (W.alloc (.cells #[.slice A3 xs.length c3] 68)) base W.heap.size A1 c1 A3 c3 none 0 ds xs [] := by
  have hb : Below W.heap.size W (W.alloc (.cells #[.slice A3 xs.length c3] 68)) := (Below.refl _ _).alloc (Nat.le_refl _) _
  exact ⟨h.d.below hb, h.o.below hb, World.ownsRow_nil _ _ _ _, h.do_, by simp, by simp, Blk.new_ rfl rfl, fun e => by have := (h.d.block _ e).2; omega, fun e => by have := (h.o.block _ e).2; omega, by simp⟩
end

def lenOf : Value → Nat | .slice _ n _ => n | _ => 0

theorem erase_last' {xs : List Int} (h : 0 < xs.length) : xs.reverse = xs.getD (xs.length - 1) 0 :: (xs.eraseIdx (xs.length - 1)).reverse := by
  have e : xs.eraseIdx (xs.length - 1) ++ [xs.getD (xs.length - 1) 0] = xs := by
    rw [List.eraseIdx_eq_take_drop_succ, show xs.length - 1 + 1 = xs.length by omega, List.drop_length, List.append_nil, List.getD_eq_getElem?_getD, List.getElem?_eq_getElem (by omega), Option.getD_some]
    have := List.take_succ_eq_append_getElem (l := xs) (i := xs.length - 1) (by omega)
    rw [← this, show xs.length - 1 + 1 = xs.length by omega, List.take_length]
  generalize xs.getD (xs.length - 1) 0 = l at *
  generalize xs.eraseIdx (xs.length - 1) = d at *
  rw [← e]; simp

def OrderPost (os : List Int) (w : World) (e : Ending) (w' : World) : Prop :=
  ∃ A c, e = .returned (.tuple #[.slice A os.length c, .int .i64 0]) ∧ Own w' w.heap.size 3 (.int .i64) (.slice A os.length c) os ∧ Below w.heap.size w w'

/-- The frame that goes first, or the error. -/
def lastR (os : List Int) : Value := match os with
  | [] => .tuple #[.int .i64 0, .int .i64 6]
  | x :: _ => .tuple #[.int .i64 x, .int .i64 0]

end Go.Proofs.Ytifimhfdapkpoaa
