/- One contract for each function of lru: lists that read as plain functions of the lists that came in, errors included. -/
import Derived.Test.YtiobbdfkimpfbaaLruO
import Derived.Test.YtiobbdfkimpfbaaLruS2
namespace Go.Proofs.Ytiobbdfkimpfbaa
set_option linter.unusedSimpArgs false
set_option linter.unusedVariables false
open Go.RowKit Go.Maps

/-- Lists and an error. -/
structure LR where
  xs : List Int
  ys : List Int
  rs : List Bool
  e : Int
def LR.bad (z : Int) : LR := ⟨[], [], [], z⟩
def addS (xs ys : List Int) (rs : List Bool) (f : Int) : LR := if lruChd xs ys rs f ≠ 0 then .bad (lruChd xs ys rs f) else if fWhere xs ys f ≠ 0 then .bad 7 else ⟨f :: xs, ys, rs, 0⟩
def remS (xs ys : List Int) (rs : List Bool) (f : Int) : LR := if lruChd xs ys rs f ≠ 0 then .bad (lruChd xs ys rs f) else if fWhere xs ys f = 0 then .bad 6 else ⟨wo f xs, wo f ys, rs.set f.toNat false, 0⟩
def touS (xs ys : List Int) (rs : List Bool) (f : Int) : LR := if lruChd xs ys rs f ≠ 0 then .bad (lruChd xs ys rs f) else if fWhere xs ys f = 0 then .bad 6 else ⟨xs, ys, rs.set f.toNat true, 0⟩
def newS (n : Int) : LR := if n < 1 ∨ 256 < n then .bad 2 else ⟨[], [], List.replicate n.toNat false, 0⟩
def lastF (xs : List Int) : Int := xs.getD (xs.length - 1) 0
def demS (xs ys : List Int) (rs : List Bool) : LR := if lruChk xs ys rs ≠ 0 then .bad (lruChk xs ys rs) else if xs.length = 0 then .bad 6 else ⟨dX xs ys, dY xs ys, rs.set (lastF xs).toNat false, 0⟩
def demF (xs ys : List Int) (rs : List Bool) : Int := if lruChk xs ys rs ≠ 0 then 0 else if xs.length = 0 then 0 else lastF xs
def proS (xs ys : List Int) (rs : List Bool) : LR := if lruChk xs ys rs ≠ 0 then .bad (lruChk xs ys rs) else if ys.length = 0 then .bad 6 else ⟨pX xs ys, pY xs ys, rs.set (lastF ys).toNat false, 0⟩
def proF (xs ys : List Int) (rs : List Bool) : Int := if lruChk xs ys rs ≠ 0 then 0 else if ys.length = 0 then 0 else lastF ys

/-- Slices that do not lie below a block. -/
structure NewL (base : Nat) (A1 A2 A3 : Option Addr) : Prop where
  a : ∀ g, A1.map (·.block) = some g → base ≤ g
  i : ∀ g, A2.map (·.block) = some g → base ≤ g
  r : ∀ g, A3.map (·.block) = some g → base ≤ g
theorem NewL.none_ (base : Nat) : NewL base none none none := ⟨by simp, by simp, by simp⟩
theorem OwnL.new_ {w : World} {base : Nat} {A1 A2 A3 : Option Addr} {c1 c2 c3 : Nat} {xs ys : List Int} {rs : List Bool} (h : OwnL w base A1 c1 A2 c2 A3 c3 xs ys rs) : NewL base A1 A2 A3 :=
  ⟨fun g e => (h.a.block g e).1, fun g e => (h.i.block g e).1, fun g e => (h.r.block g e).1⟩
theorem Sl.far_ {α : Type} {w : World} {mk : α → Value} {A : Option Addr} {xs : List α} {B : Nat} (h : Sl w mk A xs) (hB : ∀ g, A.map (·.block) = some g → g ≠ B) (o : Nat) (v : Value) :
    Sl (w.setCell ⟨B, o, none⟩ v) mk A xs := fun hn => by
  obtain ⟨b, off, e, hlt, hc⟩ := h hn
  have hne : b ≠ B := hB b (by rw [e]; rfl)
  refine ⟨b, off, e, by simpa [World.setCell] using hlt, fun j x hx => ?_⟩
  rw [World.cell?_setCell_other _ _ _ _ (by intro e; injection e with e1; omega)]
  exact hc j x hx
theorem InMem.far_ {w : World} {A1 A2 A3 : Option Addr} {xs ys : List Int} {rs : List Bool} {base B : Nat} (h : InMem w A1 A2 A3 xs ys rs) (hn : NewL base A1 A2 A3) (hB : B < base) (o : Nat) (v : Value) : InMem (w.setCell ⟨B, o, none⟩ v) A1 A2 A3 xs ys rs :=
  ⟨h.a.far_ (fun g e => by have := hn.a g e; omega) o v, h.i.far_ (fun g e => by have := hn.i g e; omega) o v, h.r.far_ (fun g e => by have := hn.r g e; omega) o v, h.la, h.li, h.lr, h.wa, h.wi⟩
/-- Lists in memory that read as R, and R's error. -/
def LPost (R : LR) (w : World) (e : Ending) (w' : World) : Prop :=
  ∃ A1 c1 A2 c2 A3 c3, e = .returned (.tuple #[.agg #[.slice A1 R.xs.length c1, .slice A2 R.ys.length c2, .slice A3 R.rs.length c3], .int .i64 R.e]) ∧ InMem w' A1 A2 A3 R.xs R.ys R.rs ∧ NewL w.heap.size A1 A2 A3 ∧ Below w.heap.size w w'
def LPost3 (R : LR) (f : Int) (w : World) (e : Ending) (w' : World) : Prop :=
  ∃ A1 c1 A2 c2 A3 c3, e = .returned (.tuple #[.agg #[.slice A1 R.xs.length c1, .slice A2 R.ys.length c2, .slice A3 R.rs.length c3], .int .i64 f, .int .i64 R.e]) ∧ InMem w' A1 A2 A3 R.xs R.ys R.rs ∧ NewL w.heap.size A1 A2 A3 ∧ Below w.heap.size w w'

theorem inMem_none (w : World) : InMem w none none none [] [] [] := ⟨Sl.nil, Sl.nil, Sl.nil, by simp, by simp, by simp, by simp, by simp⟩
theorem LPost.of_bad {w w' : World} {z : Int} {e : Ending} (h : e = .returned (.tuple #[.agg #[.slice none 0 0, .slice none 0 0, .slice none 0 0], .int .i64 z]) ∧ Below w.heap.size w w') : LPost (.bad z) w e w' :=
  ⟨none, 0, none, 0, none, 0, h.1, inMem_none _, NewL.none_ _, h.2⟩
theorem LPost3.of_bad {w w' : World} {z : Int} {e : Ending} (h : e = .returned (.tuple #[.agg #[.slice none 0 0, .slice none 0 0, .slice none 0 0], .int .i64 0, .int .i64 z]) ∧ Below w.heap.size w w') : LPost3 (.bad z) 0 w e w' :=
  ⟨none, 0, none, 0, none, 0, h.1, inMem_none _, NewL.none_ _, h.2⟩

theorem wf_small {x : Int} (h0 : 0 ≤ x) (h1 : x ≤ 100000) : (Lit.int .i64 x).wf = true := WalkArith.wf_i64 (by omega)
/-- Valid lists of a call's own lie in memory. -/
theorem OwnL.memV {w : World} {base : Nat} {A1 A2 A3 : Option Addr} {c1 c2 c3 : Nat} {xs ys : List Int} {rs : List Bool} (h : OwnL w base A1 c1 A2 c2 A3 c3 xs ys rs) (hc : lruChk xs ys rs = 0) : InMem w A1 A2 A3 xs ys rs := by
  have hv := valid_of_chk hc
  have hl := hv.len
  have hh := hv.hi
  exact h.mem (by omega) (by omega) (by omega) (fun x hx => by have := hv.range x (by simp [hx]); exact wf_small this.1 (by omega)) (fun x hx => by have := hv.range x (by simp [hx]); exact wf_small this.1 (by omega))
theorem LPost.of_ok {w w' : World} {xs ys : List Int} {rs : List Bool} {e : Ending} (hc : lruChk xs ys rs = 0) (h : ListsPost xs ys rs w e w') : LPost ⟨xs, ys, rs, 0⟩ w e w' := by
  obtain ⟨A1, c1, A2, c2, A3, c3, he, ho, hb⟩ := h
  exact ⟨A1, c1, A2, c2, A3, c3, he, ho.memV hc, ho.new_, hb⟩

theorem wo_self {f : Int} {ys : List Int} (h : f ∉ ys) : wo f ys = ys := List.filter_eq_self.2 (fun a ha => by
  have : a ≠ f := fun e => h (e ▸ ha)
  simpa using this)
theorem wo_erase {f : Int} {xs : List Int} (hn : xs.Nodup) : wo f xs = xs.erase f := (hn.erase_eq_filter f).symm
theorem wo_mem {f x : Int} {xs : List Int} (h : x ∈ wo f xs) : x ∈ xs ∧ x ≠ f := by
  have := List.mem_filter.1 h
  exact ⟨this.1, by simpa using this.2⟩
theorem wo_nodup {f : Int} {xs : List Int} (h : xs.Nodup) : (wo f xs).Nodup := h.filter _
theorem mem_wo {f x : Int} {xs : List Int} (h : x ∈ xs) (hne : x ≠ f) : x ∈ wo f xs := List.mem_filter.2 ⟨h, by simpa using hne⟩
theorem wo_append (f : Int) (xs ys : List Int) : wo f (xs ++ ys) = wo f xs ++ wo f ys := List.filter_append ..
theorem chk_rem {xs ys : List Int} {rs : List Bool} {f : Int} (hv : Valid xs ys rs) (h0 : 0 ≤ f) : lruChk (wo f xs) (wo f ys) (rs.set f.toNat false) = 0 := by
  rw [← show lruChk (wo f xs) (wo f ys) (rs.set f.toNat false) = lruChk (wo f xs) (wo f ys) (rs.set f.toNat false) from rfl]
  refine chk_of (by simpa using hv.lo) (by simpa using hv.hi) (fun x hx => ?_) ?_ (fun k hk => ?_)
  · rw [← wo_append] at hx
    simpa using hv.range x (wo_mem hx).1
  · rw [← wo_append]; exact wo_nodup hv.nodup
  · obtain ⟨h1, h2⟩ := set_false_sub hk
    rw [← wo_append]
    exact mem_wo (hv.refs k h1) (by omega)

section
variable (Aa Ai Ar : Option Addr) (ca ci cr : Nat) (xs ys : List Int) (rs : List Bool) (w : World) (hm : InMem w Aa Ai Ar xs ys rs)
include hm
theorem Remove_S (f : Int) : Calls Try.prog 47 #[.agg #[.slice Aa xs.length ca, .slice Ai ys.length ci, .slice Ar rs.length cr], .int .i64 f] w (LPost (remS xs ys rs f) w) := by
  unfold remS
  by_cases h0 : lruChd xs ys rs f ≠ 0
  · rw [if_pos h0]
    exact (Remove_bad _ _ _ _ _ _ _ _ _ _ _ _ hm rfl h0).mono fun _ _ h => LPost.of_bad h
  · rw [if_neg h0]
    have h0' : lruChd xs ys rs f = 0 := by simpa using h0
    by_cases h1 : fWhere xs ys f = 0
    · rw [if_pos h1]
      exact (Remove_no _ _ _ _ _ _ _ _ _ _ _ _ hm h0' h1 rfl).mono fun _ _ h => LPost.of_bad h
    · rw [if_neg h1]
      obtain ⟨hk, f0, f1⟩ := chd_ok h0'
      have hv := valid_of_chk hk
      have hnd := List.nodup_append.1 hv.nodup
      have hck := chk_rem hv f0
      by_cases hx : f ∈ xs
      · have hy : f ∉ ys := fun hy => hnd.2.2 f hx f hy rfl
        have e1 : wo f xs = xs.eraseIdx (ixOf xs f).toNat := by rw [eraseIdx_ixOf hx]; exact wo_erase hnd.1
        rw [wo_self hy, e1] at hck ⊢
        exact (Remove_ok1 _ _ _ _ _ _ _ _ _ _ _ hm h0' (if_pos hx) (if_pos hx) hx).mono fun _ _ h => LPost.of_ok hck h
      · have hy : f ∈ ys := by
          unfold fWhere at h1
          rw [if_neg hx] at h1
          by_cases hy : f ∈ ys
          · exact hy
          · rw [if_neg hy] at h1; exact absurd rfl h1
        have e1 : wo f ys = ys.eraseIdx (ixOf ys f).toNat := by rw [eraseIdx_ixOf hy]; exact wo_erase hnd.2.1
        rw [wo_self hx, e1] at hck ⊢
        exact (Remove_ok2 _ _ _ _ _ _ _ _ _ _ _ hm h0' ((if_neg hx).trans (if_pos hy)) ((if_neg hx).trans (if_pos hy)) hy).mono fun _ _ h => LPost.of_ok hck h
theorem Demote_S : Calls Try.prog 82 #[.agg #[.slice Aa xs.length ca, .slice Ai ys.length ci, .slice Ar rs.length cr]] w (LPost3 (demS xs ys rs) (demF xs ys rs) w) := by
  unfold demS demF
  by_cases h0 : lruChk xs ys rs ≠ 0
  · rw [if_pos h0, if_pos h0]
    exact (Demote_bad _ _ _ _ _ _ _ _ _ _ _ hm rfl h0).mono fun _ _ h => LPost3.of_bad h
  · rw [if_neg h0, if_neg h0]
    have h0' : lruChk xs ys rs = 0 := by simpa using h0
    by_cases h1 : xs.length = 0
    · rw [if_pos h1, if_pos h1]
      exact (Demote_none _ _ _ _ _ _ _ _ _ _ hm h0' (by omega)).mono fun _ _ h => LPost3.of_bad h
    · rw [if_neg h1, if_neg h1]
      refine (Demote_ok _ _ _ _ _ _ _ _ _ _ hm h0' (by omega)).mono ?_
      rintro e w' ⟨A1, c1, A2, c2, A3, c3, he, ho, hb⟩
      exact ⟨A1, c1, A2, c2, A3, c3, he, ho.memV (chk_dem (valid_of_chk h0') (by omega) _), ho.new_, hb⟩
theorem Promote_S : Calls Try.prog 84 #[.agg #[.slice Aa xs.length ca, .slice Ai ys.length ci, .slice Ar rs.length cr]] w (LPost3 (proS xs ys rs) (proF xs ys rs) w) := by
  unfold proS proF
  by_cases h0 : lruChk xs ys rs ≠ 0
  · rw [if_pos h0, if_pos h0]
    exact (Promote_bad _ _ _ _ _ _ _ _ _ _ _ hm rfl h0).mono fun _ _ h => LPost3.of_bad h
  · rw [if_neg h0, if_neg h0]
    have h0' : lruChk xs ys rs = 0 := by simpa using h0
    by_cases h1 : ys.length = 0
    · rw [if_pos h1, if_pos h1]
      exact (Promote_none _ _ _ _ _ _ _ _ _ _ hm h0' (by omega)).mono fun _ _ h => LPost3.of_bad h
    · rw [if_neg h1, if_neg h1]
      refine (Promote_ok _ _ _ _ _ _ _ _ _ _ hm h0' (by omega)).mono ?_
      rintro e w' ⟨A1, c1, A2, c2, A3, c3, he, ho, hb⟩
      exact ⟨A1, c1, A2, c2, A3, c3, he, ho.memV (chk_pro (valid_of_chk h0') (by omega) _), ho.new_, hb⟩
end
/-- What lru.Order and lru.Last give back. -/
def ordL (xs ys : List Int) (rs : List Bool) : List Int := if lruChk xs ys rs ≠ 0 then [] else ys.reverse ++ xs.reverse
def lastV (xs ys : List Int) (rs : List Bool) : Int × Int := if lruChk xs ys rs ≠ 0 then (0, lruChk xs ys rs) else match ys.reverse ++ xs.reverse with
  | [] => (0, 6)
  | x :: _ => (x, 0)
def OPost (os : List Int) (z : Int) (w : World) (e : Ending) (w' : World) : Prop :=
  ∃ A c, e = .returned (.tuple #[.slice A os.length c, .int .i64 z]) ∧ Sl w' (.int .i64) A os ∧ Below w.heap.size w w'
section
variable (Aa Ai Ar : Option Addr) (ca ci cr : Nat) (xs ys : List Int) (rs : List Bool) (w : World) (hm : InMem w Aa Ai Ar xs ys rs)
include hm
theorem Order_S : Calls Try.prog 34 #[.agg #[.slice Aa xs.length ca, .slice Ai ys.length ci, .slice Ar rs.length cr]] w (OPost (ordL xs ys rs) (lruChk xs ys rs) w) := by
  unfold ordL
  by_cases h0 : lruChk xs ys rs ≠ 0
  · rw [if_pos h0]
    exact (Order_bad _ _ _ _ _ _ _ _ _ _ _ hm rfl h0).mono fun _ _ h => ⟨none, 0, h.1, Sl.nil, h.2⟩
  · rw [if_neg h0]
    have h0' : lruChk xs ys rs = 0 := by simpa using h0
    rw [h0']
    refine (Order_ok _ _ _ _ _ _ _ _ _ _ hm h0').mono ?_
    rintro e w' ⟨A, c, he, ho, hb⟩
    exact ⟨A, c, he, ho.sl_, hb⟩
theorem Last_S : Calls Try.prog 46 #[.agg #[.slice Aa xs.length ca, .slice Ai ys.length ci, .slice Ar rs.length cr]] w fun e w' =>
    e = .returned (.tuple #[.int .i64 (lastV xs ys rs).1, .int .i64 (lastV xs ys rs).2]) ∧ Below w.heap.size w w' := by
  unfold lastV
  by_cases h0 : lruChk xs ys rs ≠ 0
  · rw [if_pos h0]
    exact Last_bad _ _ _ _ _ _ _ _ _ _ _ hm rfl h0
  · rw [if_neg h0]
    have h0' : lruChk xs ys rs = 0 := by simpa using h0
    have h := Last_ok _ _ _ ca ci cr _ _ _ _ hm h0'
    generalize ys.reverse ++ xs.reverse = os at *
    cases os <;> exact h
theorem Where_S (f : Int) : Calls Try.prog 36 #[.agg #[.slice Aa xs.length ca, .slice Ai ys.length ci, .slice Ar rs.length cr], .int .i64 f] w fun e w' =>
    e = .returned (.tuple #[.int .i64 (if lruChd xs ys rs f ≠ 0 then 0 else fWhere xs ys f), .int .i64 (lruChd xs ys rs f)]) ∧ Below w.heap.size w w' := by
  refine (Where_any _ _ _ _ _ _ _ _ _ f _ hm).mono ?_
  rintro e w' ⟨rfl, hb⟩
  refine ⟨?_, hb⟩
  unfold whereR
  by_cases h0 : lruChd xs ys rs f ≠ 0
  · rw [if_pos h0, if_pos h0]
  · rw [if_neg h0, if_neg h0]
    have h0' : lruChd xs ys rs f = 0 := by simpa using h0
    rw [h0']
end
end Go.Proofs.Ytiobbdfkimpfbaa
