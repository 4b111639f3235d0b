/- Plain laws of lists of frames: what stays valid. No program in sight. -/
import Derived.Test.YtiobbdfkimpfbaaLLUndo
namespace Go.Proofs.Ytiobbdfkimpfbaa
set_option linter.unusedSimpArgs false
set_option linter.unusedVariables false
open Go.RowKit Go.Maps

theorem chk_perm {xs ys xs' ys' : List Int} {rs rs' : List Bool} (hv : Valid xs ys rs) (hp : (xs' ++ ys').Perm (xs ++ ys)) (hl : rs'.length = rs.length) (hb : ∀ k : Nat, rs'[k]? = some true → (k : Int) ∈ xs ++ ys) : lruChk xs' ys' rs' = 0 :=
  chk_of (by rw [hl]; exact hv.lo) (by rw [hl]; exact hv.hi) (fun x hx => by rw [hl]; exact hv.range x (hp.mem_iff.1 hx)) (hp.nodup_iff.2 hv.nodup) (fun k hk => hp.mem_iff.2 (hb k hk))
theorem set_false_sub {rs : List Bool} {m k : Nat} (h : (rs.set m false)[k]? = some true) : rs[k]? = some true ∧ k ≠ m := by
  rw [List.getElem?_set] at h
  by_cases e : m = k
  · rw [if_pos e] at h; split at h <;> simp at h
  · rw [if_neg e] at h; exact ⟨h, fun h' => e h'.symm⟩
theorem erase_last {xs : List Int} (h : 0 < xs.length) : xs.eraseIdx (xs.length - 1) ++ [xs.getD (xs.length - 1) 0] = xs := by
  rw [List.eraseIdx_eq_take_drop_succ, show xs.length - 1 + 1 = xs.length by omega, List.drop_length, List.append_nil, List.getD_eq_getElem?_getD, List.getElem?_eq_getElem (by omega), Option.getD_some]
  have := List.take_succ_eq_append_getElem (l := xs) (i := xs.length - 1) (by omega)
  rw [← this, show xs.length - 1 + 1 = xs.length by omega, List.take_length]
theorem chk_dem {xs ys : List Int} {rs : List Bool} (hv : Valid xs ys rs) (h : 0 < xs.length) (m : Nat) : lruChk (dX xs ys) (dY xs ys) (rs.set m false) = 0 := by
  refine chk_perm hv ?_ (by simp) (fun k hk => hv.refs k (set_false_sub hk).1)
  have e := erase_last h
  have : dX xs ys ++ dY xs ys = xs ++ ys := by
    show xs.eraseIdx (xs.length - 1) ++ (xs.getD (xs.length - 1) 0 :: ys) = _
    rw [show (xs.getD (xs.length - 1) 0 :: ys) = [xs.getD (xs.length - 1) 0] ++ ys from rfl, ← List.append_assoc, e]
  rw [this]
theorem chk_pro {xs ys : List Int} {rs : List Bool} (hv : Valid xs ys rs) (h : 0 < ys.length) (m : Nat) : lruChk (pX xs ys) (pY xs ys) (rs.set m false) = 0 := by
  refine chk_perm hv ?_ (by simp) (fun k hk => hv.refs k (set_false_sub hk).1)
  have e := erase_last h
  show ((ys.getD (ys.length - 1) 0 :: xs) ++ ys.eraseIdx (ys.length - 1)).Perm (xs ++ ys)
  generalize ys.getD (ys.length - 1) 0 = l at *
  generalize ys.eraseIdx (ys.length - 1) = d at *
  rw [← e, ← List.append_assoc, List.cons_append]
  exact (List.perm_append_singleton l (xs ++ d)).symm
theorem chk_touch {xs ys : List Int} {rs : List Bool} {f : Int} (hv : Valid xs ys rs) (h : f ∈ xs ++ ys) (h0 : 0 ≤ f) : lruChk xs ys (rs.set f.toNat true) = 0 := by
  refine chk_perm hv (List.Perm.refl _) (by simp) (fun k hk => ?_)
  rw [List.getElem?_set] at hk
  by_cases e : f.toNat = k
  · rw [show (k : Int) = f by omega]; exact h
  · rw [if_neg e] at hk; exact hv.refs k hk
theorem chk_add {xs ys : List Int} {rs : List Bool} {f : Int} (hv : Valid xs ys rs) (h : f ∉ xs ++ ys) (h0 : 0 ≤ f) (h1 : f < rs.length) : lruChk (f :: xs) ys rs = 0 := by
  refine chk_of hv.lo hv.hi (fun x hx => ?_) (List.nodup_cons.2 ⟨h, hv.nodup⟩) (fun k hk => List.mem_cons_of_mem _ (hv.refs k hk))
  rcases List.mem_cons.1 hx with rfl | hx
  · exact ⟨h0, h1⟩
  · exact hv.range x hx

theorem eraseIdx_ixOf {xs : List Int} {f : Int} (hm : f ∈ xs) : xs.eraseIdx (ixOf xs f).toNat = xs.erase f := by
  unfold ixOf
  rw [if_pos hm, Int.toNat_natCast]
  exact (List.erase_eq_eraseIdx_of_idxOf (l := xs) (a := f) (i := xs.idxOf f) rfl).symm
end Go.Proofs.Ytiobbdfkimpfbaa
