/- The chapter's examples of lru: small functions of the statements. -/
import Derived.Test.YtiobbdfkimpfbaaLru5
import Derived.Test.YtiobbdfkimpfbaaKitS
namespace Go.Proofs.Ytiobbdfkimpfbaa
set_option linter.unusedSimpArgs false
set_option linter.unusedVariables false
open Go.RowKit Go.Maps

theorem mk8 (w : World) : (Instr.makeSlice 23 (.int .i64 8) (.int .i64 8)).run Try.prog w =
    .ok (.slice (some ⟨w.heap.size, 0, none⟩) 8 8) (w.alloc (.cells #[.bool false, .bool false, .bool false, .bool false, .bool false, .bool false, .bool false, .bool false] 4)) := by kernel_rfl

set_option maxHeartbeats 400000 in
theorem lists_none (Aa Ai : Option Addr) (na ca ni ci cf : Nat) (w : World) :
    Calls Try.prog 27 #[.slice Aa na ca, .slice Ai ni ci, .slice none 0 cf] w fun e w' =>
      ∃ b, e = .returned (.agg #[.slice Aa na ca, .slice Ai ni ci, .slice (some ⟨b, 0, none⟩) 8 8]) ∧ Sl w' .bool (some ⟨b, 0, none⟩) (List.replicate 8 false) ∧ Below w.heap.size w w' := by
  have hmk := mk8
  go_enter Try.func27, Try.ntmps27
  go_wp2
  refine wp_loop_rounds 1 ?_
  rw [rounds_succ]
  go_wp2
  refine bodyPost_ret (v := .agg #[.slice Aa na ca, .slice Ai ni ci, .slice (some ⟨w.heap.size + 1, 0, none⟩) 8 8]) (by simp [results, Try.results27, go_sem]) rfl ⟨_, rfl, ?_, ?_⟩
  · exact Sl.of_lit (t := 4) (by repeat' (first | with_reducible assumption | (with_reducible refine Blk.new_ ?_ ?_ <;> first | (simp; done) | rfl) | with_reducible apply Blk.drew_ | with_reducible apply Blk.drewN_ | with_reducible apply Blk.alloc_ | with_reducible refine Blk.far_ ?_ ?_ _ | (with_reducible refine Blk.below_ ?_ (by assumption) ?_) | (simp; done) | (simp; omega) | omega | with_reducible apply le_size_alloc | with_reducible apply lt_size_alloc | with_reducible apply le_size_drewN | with_reducible apply le_size_drew | with_reducible apply le_size_setCell | refine Nat.lt_of_lt_of_le ?_ (Below.size (by assumption)) | refine Nat.le_trans ?_ (Below.size (by assumption))))
  · exact (by repeat' (first | with_reducible exact Below.refl _ _ | with_reducible assumption | with_reducible apply Below.drew | with_reducible apply below_drewN | with_reducible apply Below.alloc | with_reducible apply Below.setCell | (with_reducible refine Below.trans ?_ (Below.mono (by assumption) ?_)) | (simp; done) | (simp; omega) | omega | with_reducible apply le_size_alloc | with_reducible apply le_size_drewN | with_reducible apply le_size_drew | with_reducible apply le_size_setCell | refine Nat.le_trans ?_ (Below.size (by assumption))))

set_option maxHeartbeats 400000 in
theorem lists_one (Aa Ai : Option Addr) (na ca ni ci vb : Nat) (w : World) (hv : Blk w vb 3 #[.int .i64 1]) :
    Calls Try.prog 27 #[.slice Aa na ca, .slice Ai ni ci, .slice (some ⟨vb, 0, none⟩) 1 1] w fun e w' =>
      ∃ b, e = .returned (.agg #[.slice Aa na ca, .slice Ai ni ci, .slice (some ⟨b, 0, none⟩) 8 8]) ∧ Sl w' .bool (some ⟨b, 0, none⟩) [false, true, false, false, false, false, false, false] ∧ Below w.heap.size w w' := by
  have hmk := mk8
  have hlt := hv.lt
  have hc : ∀ o1 o2 o3, (((w.alloc o1).alloc o2).alloc o3).cell? ⟨vb, 0, none⟩ = some (.int .i64 1) := fun o1 o2 o3 => by
    rw [World.cell?_alloc_lt _ _ _ (by show vb < _; simp; omega), World.cell?_alloc_lt _ _ _ (by show vb < _; simp; omega), World.cell?_alloc_lt _ _ _ hlt, hv.cell_]; rfl
  go_enter Try.func27, Try.ntmps27
  go_wp2
  refine wp_loop_rounds 2 ?_
  rw [rounds_succ]
  go_wp2
  go_region
  go_wp2
  rw [rounds_succ]
  go_wp2
  refine bodyPost_ret (v := .agg #[.slice Aa na ca, .slice Ai ni ci, .slice (some ⟨w.heap.size + 1, 0, none⟩) 8 8]) (by simp [results, Try.results27, go_sem]) rfl ⟨_, rfl, ?_, ?_⟩
  · exact Sl.of_lit (t := 4) (by repeat' (first | with_reducible assumption | (with_reducible refine Blk.new_ ?_ ?_ <;> first | (simp; done) | rfl) | with_reducible apply Blk.drew_ | with_reducible apply Blk.drewN_ | with_reducible apply Blk.alloc_ | with_reducible refine Blk.far_ ?_ ?_ _ | (with_reducible refine Blk.below_ ?_ (by assumption) ?_) | (simp; done) | (simp; omega) | omega | with_reducible apply le_size_alloc | with_reducible apply lt_size_alloc | with_reducible apply le_size_drewN | with_reducible apply le_size_drew | with_reducible apply le_size_setCell | refine Nat.lt_of_lt_of_le ?_ (Below.size (by assumption)) | refine Nat.le_trans ?_ (Below.size (by assumption))))
  · exact (by repeat' (first | with_reducible exact Below.refl _ _ | with_reducible assumption | with_reducible apply Below.drew | with_reducible apply below_drewN | with_reducible apply Below.alloc | with_reducible apply Below.setCell | (with_reducible refine Below.trans ?_ (Below.mono (by assumption) ?_)) | (simp; done) | (simp; omega) | omega | with_reducible apply le_size_alloc | with_reducible apply le_size_drewN | with_reducible apply le_size_drew | with_reducible apply le_size_setCell | refine Nat.le_trans ?_ (Below.size (by assumption))))

/-- Lists that a call gave back lie in memory. -/
theorem OwnL.mem {w : World} {base : Nat} {A1 A2 A3 : Option Addr} {c1 c2 c3 : Nat} {xs ys : List Int} {rs : List Bool} (h : OwnL w base A1 c1 A2 c2 A3 c3 xs ys rs)
    (la : xs.length ≤ 100000) (li : ys.length ≤ 100000) (lr : rs.length ≤ 100000) (wa : ∀ x ∈ xs, (Lit.int .i64 x).wf = true) (wi : ∀ x ∈ ys, (Lit.int .i64 x).wf = true) : InMem w A1 A2 A3 xs ys rs := by
  have e : ∀ {α : Type} {E : TypeId} {mk : α → Value} {A : Option Addr} {n c : Nat} {zs : List α}, Own w base E mk (.slice A n c) zs → Sl w mk A zs := by
    intro α E mk A n c zs ho
    obtain ⟨A', c', e, hs⟩ := ho.sl
    injection e with e
    subst e
    exact hs
  exact ⟨e h.a, e h.i, e h.r, by omega, by omega, by omega, wa, wi⟩

end Go.Proofs.Ytiobbdfkimpfbaa
