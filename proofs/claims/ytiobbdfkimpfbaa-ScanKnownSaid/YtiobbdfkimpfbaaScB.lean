/- Contracts of package scan: the steps of a walk. Written by gen_scb.py. -/
import Derived.Test.YtiobbdfkimpfbaaLruU
import Derived.Test.YtiobbdfkimpfbaaRef3
import Derived.Test.YtiobbdfkimpfbaaScA
import Derived.Test.YtiobbdfkimpfbaaRange
import Derived.Test.YtiobbdfkimpfbaaFree2
namespace Go.Proofs.Ytiobbdfkimpfbaa
open Go.RowKit Go.Maps

/-- Slices that lie in other blocks, where there is something in them. -/
structure NeZ (Z : Nat → Prop) (A1 A2 A3 : Option Addr) (xs ys : List Int) (rs : List Bool) : Prop where
  a : 0 < xs.length → ∀ g, A1.map (·.block) = some g → ¬ Z g
  i : 0 < ys.length → ∀ g, A2.map (·.block) = some g → ¬ Z g
  r : 0 < rs.length → ∀ g, A3.map (·.block) = some g → ¬ Z g
abbrev NeB (b : Nat) (A1 A2 A3 : Option Addr) (xs ys : List Int) (rs : List Bool) : Prop := NeZ (fun k => k = b) A1 A2 A3 xs ys rs
theorem NewL.neZ {base : Nat} {Z : Nat → Prop} {A1 A2 A3 : Option Addr} (h : NewL base A1 A2 A3) (hz : ∀ k, Z k → k < base) (xs ys : List Int) (rs : List Bool) : NeZ Z A1 A2 A3 xs ys rs :=
  ⟨fun _ g e hg => by have := h.a g e; have := hz g hg; omega, fun _ g e hg => by have := h.i g e; have := hz g hg; omega, fun _ g e hg => by have := h.r g e; have := hz g hg; omega⟩
theorem NewL.neB {base b : Nat} {A1 A2 A3 : Option Addr} (h : NewL base A1 A2 A3) (hb : b < base) (xs ys : List Int) (rs : List Bool) : NeB b A1 A2 A3 xs ys rs := h.neZ (fun k e => by omega) xs ys rs
theorem Sl.in_ {α : Type} {w : World} {mk : α → Value} {A : Option Addr} {xs : List α} (h : Sl w mk A xs) (hp : 0 < xs.length) {g : Nat} (e : A.map (·.block) = some g) : g < w.heap.size := by
  obtain ⟨b, off, rfl, hb, _⟩ := h hp
  simp at e
  omega
theorem InMem.neZ {w : World} {Z : Nat → Prop} {A1 A2 A3 : Option Addr} {xs ys : List Int} {rs : List Bool} (h : InMem w A1 A2 A3 xs ys rs) (hz : ∀ k, Z k → w.heap.size ≤ k) : NeZ Z A1 A2 A3 xs ys rs :=
  ⟨fun hp g e hg => by have := h.a.in_ hp e; have := hz g hg; omega, fun hp g e hg => by have := h.i.in_ hp e; have := hz g hg; omega, fun hp g e hg => by have := h.r.in_ hp e; have := hz g hg; omega⟩
theorem NeZ.or {Z Z' : Nat → Prop} {A1 A2 A3 : Option Addr} {xs ys : List Int} {rs : List Bool} (h : NeZ Z A1 A2 A3 xs ys rs) (h' : NeZ Z' A1 A2 A3 xs ys rs) : NeZ (fun k => Z k ∨ Z' k) A1 A2 A3 xs ys rs :=
  ⟨fun hp g e => not_or.2 ⟨h.a hp g e, h'.a hp g e⟩, fun hp g e => not_or.2 ⟨h.i hp g e, h'.i hp g e⟩, fun hp g e => not_or.2 ⟨h.r hp g e, h'.r hp g e⟩⟩
theorem NeZ.sub {Z Z' : Nat → Prop} {A1 A2 A3 : Option Addr} {xs ys : List Int} {rs : List Bool} (h : NeZ Z A1 A2 A3 xs ys rs) (hz : ∀ k, Z' k → Z k) : NeZ Z' A1 A2 A3 xs ys rs :=
  ⟨fun hp g e hg => h.a hp g e (hz g hg), fun hp g e hg => h.i hp g e (hz g hg), fun hp g e hg => h.r hp g e (hz g hg)⟩
theorem Sl.aside_ {α : Type} {w w' : World} {Z : Nat → Prop} {mk : α → Value} {A : Option Addr} {xs : List α} (h : Sl w mk A xs) (ha : Aside Z w w') (hz : 0 < xs.length → ∀ q, A.map (·.block) = some q → ¬ Z q) : Sl w' mk A xs := fun hn => ha.sl h (hz hn) hn
/-- Lists that read as before. -/
theorem InMem.aside {w w' : World} {Z : Nat → Prop} {A1 A2 A3 : Option Addr} {xs ys : List Int} {rs : List Bool} (h : InMem w A1 A2 A3 xs ys rs) (ha : Aside Z w w') (hn : NeZ Z A1 A2 A3 xs ys rs) : InMem w' A1 A2 A3 xs ys rs :=
  ⟨h.a.aside_ ha hn.a, h.i.aside_ ha hn.i, h.r.aside_ ha hn.r, h.la, h.li, h.lr, h.wa, h.wi⟩
theorem InMem.set_ {w : World} {b : Nat} {A1 A2 A3 : Option Addr} {xs ys : List Int} {rs : List Bool} (h : InMem w A1 A2 A3 xs ys rs) (hn : NeB b A1 A2 A3 xs ys rs) (o : Nat) (v : Value) : InMem (w.setCell ⟨b, o, none⟩ v) A1 A2 A3 xs ys rs :=
  h.aside ((Aside.refl (fun k => k = b) w).setCell (p := ⟨b, o, none⟩) (.inr rfl) v) hn
/-- What lies in a walk's block. -/
def wkC (A1 A2 A3 : Option Addr) (c1 c2 c3 : Nat) (xs ys : List Int) (rs : List Bool) (T F : Int) (mv : List Int) : Array Value :=
  #[.slice A1 xs.length c1, .slice A2 ys.length c2, .slice A3 rs.length c3, .int .i64 T, .int .i64 F, .int .u64 (wrd 0 mv), .int .u64 (wrd 1 mv), .int .u64 (wrd 2 mv), .int .u64 (wrd 3 mv)]
/-- A walk that lies in block b. -/
structure WK (w : World) (b : Nat) (A1 A2 A3 : Option Addr) (c1 c2 c3 : Nat) (xs ys : List Int) (rs : List Bool) (T F : Int) (mv : List Int) : Prop where
  blk : Blk w b 66 #[.slice A1 xs.length c1, .slice A2 ys.length c2, .slice A3 rs.length c3, .int .i64 T, .int .i64 F, .int .u64 (wrd 0 mv), .int .u64 (wrd 1 mv), .int .u64 (wrd 2 mv), .int .u64 (wrd 3 mv)]
  mem : InMem w A1 A2 A3 xs ys rs
  ne : NeB b A1 A2 A3 xs ys rs
section
variable {b : Nat} {A1 A2 A3 : Option Addr} {c1 c2 c3 : Nat} {xs ys : List Int} {rs : List Bool} {T F : Int} {mv : List Int} {w w' : World}
theorem WK.below (h : WK w b A1 A2 A3 c1 c2 c3 xs ys rs T F mv) (hb : Below w.heap.size w w') : WK w' b A1 A2 A3 c1 c2 c3 xs ys rs T F mv := ⟨h.blk.below_ hb h.blk.lt, h.mem.ext hb, h.ne⟩
theorem WK.aside {Z : Nat → Prop} (h : WK w b A1 A2 A3 c1 c2 c3 xs ys rs T F mv) (ha : Aside Z w w') (h0 : ¬ Z b) (hn : NeZ Z A1 A2 A3 xs ys rs) :
    WK w' b A1 A2 A3 c1 c2 c3 xs ys rs T F mv := ⟨ha.blk h.blk h0, h.mem.aside ha hn, h.ne⟩
theorem WK.word (h : WK w b A1 A2 A3 c1 c2 c3 xs ys rs T F mv) {q : Nat} (hq : q < 4) : w.cell? ⟨b, 5 + q, none⟩ = some (.int .u64 (wrd q mv)) := by
  rw [h.blk.cell_]
  rcases (by omega : q = 0 ∨ q = 1 ∨ q = 2 ∨ q = 3) with rfl | rfl | rfl | rfl <;> simp
end

set_option maxRecDepth 100000 in
set_option maxHeartbeats 4000000 in
theorem move_any (b : Nat) (A1 A2 A3 B1 B2 B3 : Option Addr) (c1 c2 c3 d1 d2 d3 : Nat) (xs ys us vs : List Int) (rs ss : List Bool) (T F f : Int) (mv : List Int) (w : World) (h : WK w b A1 A2 A3 c1 c2 c3 xs ys rs T F mv)
    (hm : InMem w B1 B2 B3 us vs ss) (hn : NeB b B1 B2 B3 us vs ss) (f0 : 0 ≤ f) (f1 : f < 256) :
    Calls Try.prog 83 #[.pointer (some ⟨b, 0, none⟩), .agg #[.slice B1 us.length d1, .slice B2 vs.length d2, .slice B3 ss.length d3], .int .i64 f, .int .i64 0] w fun e w' =>
      e = .returned (.bool true) ∧ WK w' b B1 B2 B3 d1 d2 d3 us vs ss T f (f :: mv) ∧ Aside (fun k => k = b) w w' := by
  obtain ⟨q, r, hq, hr, rfl⟩ : ∃ q r : Nat, q < 4 ∧ r < 64 ∧ f = 64 * (q : Int) + r := ⟨f.toNat / 64, f.toNat % 64, by omega, by omega, by omega⟩
  have hlt := h.blk.lt
  have hnb : b ≠ w.heap.size := by omega
  have nbs : w.heap.size ≠ b := by omega
  have g0 := h.blk.frozen_ 0
  have g1 := h.blk.frozen_ 1
  have g2 := h.blk.frozen_ 2
  have g4 := h.blk.frozen_ 4
  have m0 : w.cell? ⟨b, 0, none⟩ = some (.slice A1 xs.length c1) := (h.blk.cell_ 0).trans (by simp)
  have m1 : w.cell? ⟨b, 1, none⟩ = some (.slice A2 ys.length c2) := (h.blk.cell_ 1).trans (by simp)
  have m2 : w.cell? ⟨b, 2, none⟩ = some (.slice A3 rs.length c3) := (h.blk.cell_ 2).trans (by simp)
  have m4 : w.cell? ⟨b, 4, none⟩ = some (.int .i64 F) := (h.blk.cell_ 4).trans (by simp)
  have H := Lib.hid h; have HM := Lib.hid hm; have HN := Lib.hid hn
  clear h hm hn
  go_enter Try.func83, Try.ntmps83
  go_wp2_with fail
  obtain ⟨V, hV⟩ : ∃ V, ((((w.setCell ⟨b, 0, none⟩ (.slice B1 us.length d1)).setCell ⟨b, 1, none⟩ (.slice B2 vs.length d2)).setCell ⟨b, 2, none⟩ (.slice B3 ss.length d3)).setCell ⟨b, 4, none⟩ (.int .i64 (64 * (q : Int) + r))).alloc (.cells #[.slice B1 us.length d1, .slice B2 vs.length d2, .slice B3 ss.length d3] 25) = V := ⟨_, rfl⟩
  have KV : Hid (WK V b B1 B2 B3 d1 d2 d3 us vs ss T (64 * (q : Int) + r) mv) := by
    show WK _ _ _ _ _ _ _ _ _ _ _ _ _ _
    rw [← hV]
    refine ⟨?_, (((((HM.out.set_ HN.out _ _).set_ HN.out _ _).set_ HN.out _ _).set_ HN.out _ _).ext ((Below.refl _ _).alloc (Nat.le_refl _) _)), HN.out⟩
    simpa using ((((H.out.blk.set_ 0 (.slice B1 us.length d1)).set_ 1 (.slice B2 vs.length d2)).set_ 2 (.slice B3 ss.length d3)).set_ 4 (.int .i64 (64 * (q : Int) + r))).alloc_ _
  have AV : Hid (Aside (fun k => k = b) w V) := by
    show Aside _ _ _
    rw [← hV]
    exact (((((Aside.refl (fun k => k = b) w).setCell (p := ⟨b, 0, none⟩) (.inr rfl) _).setCell (p := ⟨b, 1, none⟩) (.inr rfl) _).setCell (p := ⟨b, 2, none⟩) (.inr rfl) _).setCell (p := ⟨b, 4, none⟩) (.inr rfl) _).alloc _
  rw [hV]
  clear hV g0 g1 g2 g4 m0 m1 m2 m4 H HM
  have hlv := KV.out.blk.lt
  refine (add_any b 5 q r (wrd q mv) _ hq hr hlv (KV.out.blk.frozen_ _) (KV.out.word hq) (wrd_lt q mv)).mono ?_
  rintro e w' ⟨rfl, W, hbW, rfl⟩
  have KW := Lib.hid (KV.out.below hbW)
  have AW : Aside (fun k => k = b) w (W.setCell ⟨b, 5 + q, none⟩ (.int .u64 ((wrd q mv ||| 2 ^ r : Nat) : Int))) := (AV.out.trans (Aside.of_below hbW)).setCell (.inr rfl) _
  clear hbW KV AV
  go_wp2_with fail
  go_ret
  refine ⟨rfl, ⟨?_, KW.out.mem.set_ HN.out _ _, HN.out⟩, AW⟩
  have e1 : (64 * (q : Int) + r).toNat / 64 = q := by omega
  have e2 : (64 * (q : Int) + r).toNat % 64 = r := by omega
  have := KW.out.blk.set_ (5 + q) (.int .u64 ((wrd q mv ||| 2 ^ r : Nat) : Int))
  clear AW KW
  rcases (by omega : q = 0 ∨ q = 1 ∨ q = 2 ∨ q = 3) with rfl | rfl | rfl | rfl <;> (simp only [wrd, e1, e2]; simpa using this)

end Go.Proofs.Ytiobbdfkimpfbaa
