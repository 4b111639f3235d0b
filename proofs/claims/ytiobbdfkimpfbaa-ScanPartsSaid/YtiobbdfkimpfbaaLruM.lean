/- Valid lists made of numbers. -/
import Derived.Test.YtiobbdfkimpfbaaLruK
import Derived.Test.YtiobbdfkimpfbaaApp
import Derived.Test.YtiobbdfkimpfbaaKit
namespace Go.Proofs.Ytiobbdfkimpfbaa
set_option linter.unusedSimpArgs false
set_option linter.unusedVariables false
open Go.RowKit Go.Maps

/-- The frame of round j. -/
def fr (j : Nat) : Int := ((5 * j + 3) % 16 : Nat)
/-- What holds of the lists after k rounds. -/
structure Md (k : Nat) (xs ys : List Int) (rs : List Bool) : Prop where
  len : rs.length = 16
  nodup : (xs ++ ys).Nodup
  from_ : ∀ x ∈ xs ++ ys, ∃ j, j < k ∧ x = fr j
  refs : ∀ m : Nat, rs[m]? = some true → (m : Int) ∈ xs ++ ys
theorem fr_inj {j k : Nat} (hj : j < k) (hk : k < 16) : fr j ≠ fr k := by unfold fr; omega
theorem fr_bd (k : Nat) : 0 ≤ fr k ∧ fr k < 16 := by unfold fr; omega
theorem Md.new {k : Nat} {xs ys : List Int} {rs : List Bool} (h : Md k xs ys rs) (hk : k < 16) : fr k ∉ xs ++ ys := fun hm => by
  obtain ⟨j, hj, e⟩ := h.from_ _ hm
  exact fr_inj hj hk e.symm
theorem Md.size {k : Nat} {xs ys : List Int} {rs : List Bool} (h : Md k xs ys rs) : xs.length + ys.length ≤ 16 := by
  have := nodup_len 16 _ h.nodup (fun x hx => by obtain ⟨j, _, rfl⟩ := h.from_ x hx; have := fr_bd j; omega)
  simpa using this
theorem Md.step {k : Nat} {xs ys xs' ys' : List Int} {rs : List Bool} (h : Md k xs ys rs) (hk : k < 16) (b : Bool) (hp : (xs' ++ ys').Perm (xs ++ ys) ∧ b = false ∨ (xs' ++ ys').Perm (fr k :: (xs ++ ys))) : Md (k + 1) xs' ys' (rs.set (fr k).toNat b) := by
  have hf := h.new hk
  have hb := fr_bd k
  refine ⟨by simpa using h.len, ?_, ?_, ?_⟩
  · rcases hp with ⟨hp, _⟩ | hp
    · exact hp.nodup_iff.2 h.nodup
    · exact hp.nodup_iff.2 (List.nodup_cons.2 ⟨hf, h.nodup⟩)
  · intro x hx
    rcases hp with ⟨hp, _⟩ | hp
    · obtain ⟨j, hj, e⟩ := h.from_ x (hp.mem_iff.1 hx)
      exact ⟨j, by omega, e⟩
    · rcases List.mem_cons.1 (hp.mem_iff.1 hx) with e | hx
      · exact ⟨k, by omega, e⟩
      · obtain ⟨j, hj, e⟩ := h.from_ x hx
        exact ⟨j, by omega, e⟩
  · intro m hm
    rw [List.getElem?_set] at hm
    by_cases e : (fr k).toNat = m
    · rw [if_pos e] at hm
      rcases hp with ⟨_, rfl⟩ | hp
      · split at hm <;> simp at hm
      · exact hp.mem_iff.2 (List.mem_cons.2 (.inl (by omega)))
    · rw [if_neg e] at hm
      have := h.refs m hm
      rcases hp with ⟨hp, _⟩ | hp
      · exact hp.mem_iff.2 this
      · exact hp.mem_iff.2 (List.mem_cons.2 (.inr this))
theorem lruScan_none (n : Nat) (l : List Int) : ∀ seen, (∀ x ∈ l, 0 ≤ x ∧ x < n) → l.Nodup → (∀ x ∈ l, x ∉ seen) → lruScan n seen l = none := by
  induction l with
  | nil => intro seen _ _ _; rfl
  | cons f t ih =>
    intro seen h1 h2 h3
    rw [lruScan, if_pos (h1 f (by simp)), if_neg (h3 f (by simp))]
    have h4 := List.nodup_cons.1 h2
    refine ih _ (fun x hx => h1 x (by simp [hx])) h4.2 (fun x hx => ?_)
    simp only [List.mem_append, List.mem_singleton, not_or]
    exact ⟨h3 x (by simp [hx]), fun e => h4.1 (e ▸ hx)⟩
theorem Md.chk {k : Nat} {xs ys : List Int} {rs : List Bool} (h : Md k xs ys rs) : lruChk xs ys rs = 0 :=
  lruChk_ok (by rw [h.len]; omega) (lruScan_none _ _ _ (fun x hx => by obtain ⟨j, _, rfl⟩ := h.from_ x hx; have := fr_bd j; rw [h.len]; omega) h.nodup (fun _ _ => by simp)) h.refs
theorem Md.start : Md 0 [] [] (List.replicate 16 false) := ⟨by simp, by simp, by simp, fun m hm => by
  rw [List.getElem?_replicate] at hm
  split at hm <;> simp at hm⟩


theorem mk16 (w : World) : (Instr.makeSlice 23 (.int .i64 16) (.int .i64 16)).run Try.prog w = .ok (.slice (some ⟨w.heap.size, 0, none⟩) 16 16) (w.alloc (.cells #[.bool false, .bool false, .bool false, .bool false, .bool false, .bool false, .bool false, .bool false, .bool false, .bool false, .bool false, .bool false, .bool false, .bool false, .bool false, .bool false] 4)) := by kernel_rfl
theorem fr_eq (k : Nat) : (5 * (k : Int) + 3) % 16 = fr k := by unfold fr; omega
theorem perm_act (xs ys : List Int) (f : Int) : (xs ++ [f] ++ ys).Perm (f :: (xs ++ ys)) := by rw [List.append_assoc]; exact List.perm_middle

/-- The element number i of a list, or 0. -/
def atS (xs : List Int) (i : Int) : Int := if 0 ≤ i then xs.getD i.toNat 0 else 0
def MadePost (w : World) (e : Ending) (w' : World) : Prop :=
  ∃ A1 c1 A2 c2 A3 c3 xs ys rs, e = .returned (.agg #[.slice A1 xs.length c1, .slice A2 ys.length c2, .slice A3 rs.length c3]) ∧ OwnL w' w.heap.size A1 c1 A2 c2 A3 c3 xs ys rs ∧ Md 16 xs ys rs ∧ Below w.heap.size w w'

end Go.Proofs.Ytiobbdfkimpfbaa
