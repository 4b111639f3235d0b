/- The chapter's examples of lru: small functions of the statements. -/
import Derived.Test.YtjilfijpepbfeaaLru5
import Derived.Test.YtjilfijpepbfeaaKitS
namespace Go.Proofs.Ytjilfijpepbfeaa
open Go.RowKit Go.Maps

theorem mk8 (w : World) : (Instr.makeSlice 23 (.int .i64 8) (.int .i64 8)).run Try.prog w =
    .ok (.slice (some ⟨w.heap.size, 0, none⟩) 8 8) (w.alloc (.cells #[.bool false, .bool false, .bool false, .bool false, .bool false, .bool false, .bool false, .bool false] 4)) := by kernel_rfl

set_option maxHeartbeats 400000 in
theorem lists_none (Aa Ai : Option Addr) (na ca ni ci cf : Nat) (w : World) :
    Calls Try.prog 42 #[.slice Aa na ca, .slice Ai ni ci, .slice none 0 cf] w fun e w' =>
      ∃ b, e = .returned (.agg #[.slice Aa na ca, .slice Ai ni ci, .slice (some ⟨b, 0, none⟩) 8 8]) ∧ Sl w' .bool (some ⟨b, 0, none⟩) (List.replicate 8 false) ∧ Below w.heap.size w w' := by
  have hmk := mk8
  go_enter Try.func42, Try.ntmps42
  go_wp2
  refine wp_loop_rounds 1 ?_
  rw [rounds_succ]
  go_wp2
  refine bodyPost_ret (v := .agg #[.slice Aa na ca, .slice Ai ni ci, .slice (some ⟨w.heap.size + 1, 0, none⟩) 8 8]) (by simp [results, Try.results42, go_sem]) rfl ⟨_, rfl, ?_, ?_⟩
  · exact Sl.of_lit (t := 4) (by repeat' (first | with_reducible assumption | (with_reducible refine Blk.new_ ?_ ?_ <;> first | (simp; done) | rfl) | with_reducible apply Blk.drew_ | with_reducible apply Blk.drewN_ | with_reducible apply Blk.alloc_ | with_reducible refine Blk.far_ ?_ ?_ _ | (with_reducible refine Blk.below_ ?_ (by assumption) ?_) | (simp; done) | (simp; omega) | omega | with_reducible apply le_size_alloc | with_reducible apply lt_size_alloc | with_reducible apply le_size_drewN | with_reducible apply le_size_drew | with_reducible apply le_size_setCell | refine Nat.lt_of_lt_of_le ?_ (Below.size (by assumption)) | refine Nat.le_trans ?_ (Below.size (by assumption))))
  · exact (by repeat' (first | with_reducible exact Below.refl _ _ | with_reducible assumption | with_reducible apply Below.drew | with_reducible apply below_drewN | with_reducible apply Below.alloc | with_reducible apply Below.setCell | (with_reducible refine Below.trans ?_ (Below.mono (by assumption) ?_)) | (simp; done) | (simp; omega) | omega | with_reducible apply le_size_alloc | with_reducible apply le_size_drewN | with_reducible apply le_size_drew | with_reducible apply le_size_setCell | refine Nat.le_trans ?_ (Below.size (by assumption))))

set_option maxHeartbeats 400000 in
theorem lists_one (Aa Ai : Option Addr) (na ca ni ci vb : Nat) (w : World) (hv : Blk w vb 3 #[.int .i64 1]) :
    Calls Try.prog 42 #[.slice Aa na ca, .slice Ai ni ci, .slice (some ⟨vb, 0, none⟩) 1 1] w fun e w' =>
      ∃ b, e = .returned (.agg #[.slice Aa na ca, .slice Ai ni ci, .slice (some ⟨b, 0, none⟩) 8 8]) ∧ Sl w' .bool (some ⟨b, 0, none⟩) [false, true, false, false, false, false, false, false] ∧ Below w.heap.size w w' := by
  have hmk := mk8
  have hlt := hv.lt
  have hc : ∀ o1 o2 o3, (((w.alloc o1).alloc o2).alloc o3).cell? ⟨vb, 0, none⟩ = some (.int .i64 1) := fun o1 o2 o3 => by
    rw [World.cell?_alloc_lt _ _ _ (by show vb < _; simp; omega), World.cell?_alloc_lt _ _ _ (by show vb < _; simp; omega), World.cell?_alloc_lt _ _ _ hlt, hv.cell_]; rfl
  go_enter Try.func42, Try.ntmps42
  go_wp2
  refine wp_loop_rounds 2 ?_
  rw [rounds_succ]
  go_wp2
  go_region
  go_wp2
  rw [rounds_succ]
  go_wp2
  refine bodyPost_ret (v := .agg #[.slice Aa na ca, .slice Ai ni ci, .slice (some ⟨w.heap.size + 1, 0, none⟩) 8 8]) (by simp [results, Try.results42, go_sem]) rfl ⟨_, rfl, ?_, ?_⟩
  · exact Sl.of_lit (t := 4) (by repeat' (first | with_reducible assumption | (with_reducible refine Blk.new_ ?_ ?_ <;> first | (simp; done) | rfl) | with_reducible apply Blk.drew_ | with_reducible apply Blk.drewN_ | with_reducible apply Blk.alloc_ | with_reducible refine Blk.far_ ?_ ?_ _ | (with_reducible refine Blk.below_ ?_ (by assumption) ?_) | (simp; done) | (simp; omega) | omega | with_reducible apply le_size_alloc | with_reducible apply lt_size_alloc | with_reducible apply le_size_drewN | with_reducible apply le_size_drew | with_reducible apply le_size_setCell | refine Nat.lt_of_lt_of_le ?_ (Below.size (by assumption)) | refine Nat.le_trans ?_ (Below.size (by assumption))))
  · exact (by repeat' (first | with_reducible exact Below.refl _ _ | with_reducible assumption | with_reducible apply Below.drew | with_reducible apply below_drewN | with_reducible apply Below.alloc | with_reducible apply Below.setCell | (with_reducible refine Below.trans ?_ (Below.mono (by assumption) ?_)) | (simp; done) | (simp; omega) | omega | with_reducible apply le_size_alloc | with_reducible apply le_size_drewN | with_reducible apply le_size_drew | with_reducible apply le_size_setCell | refine Nat.le_trans ?_ (Below.size (by assumption))))

set_option maxHeartbeats 400000 in
theorem New_ok (n : Int) (w : World) (h1 : 1 ≤ n) (h2 : n ≤ 256) : Calls Try.prog 13 #[.int .i64 n] w (ListsPost [] [] (List.replicate n.toNat false) w) := by
  obtain ⟨j0, hj0, hy0, hy1, hy2⟩ := info_parts boolInfo
  have hmk := fun (W : World) => run_make (P := Try.prog) W 23 4 j0 (.bool false) Try.underlying23 hj0 hy0 .i64 .i64 n n (by omega) (by omega) (by rw [hy2]; omega) (by omega)
  go_enter Try.func13, Try.ntmps13
  go_wp2
  refine bodyPost_ret (v := .tuple #[.agg #[.slice none 0 0, .slice none 0 0, .slice (some ⟨w.heap.size + 1, 0, none⟩) n.toNat n.toNat], .int .i64 0]) (by simp [results, Try.results13, go_sem]) rfl ?_
  have hl : (List.replicate n.toNat false).length = n.toNat := by simp
  unfold ListsPost
  rw [hl]
  refine ⟨none, 0, none, 0, some ⟨w.heap.size + 1, 0, none⟩, n.toNat, rfl, ?_, (by repeat' (first | with_reducible exact Below.refl _ _ | with_reducible assumption | with_reducible apply Below.drew | with_reducible apply below_drewN | with_reducible apply Below.alloc | with_reducible apply Below.setCell | (with_reducible refine Below.trans ?_ (Below.mono (by assumption) ?_)) | (simp; done) | (simp; omega) | omega | with_reducible apply le_size_alloc | with_reducible apply le_size_drewN | with_reducible apply le_size_drew | with_reducible apply le_size_setCell | refine Nat.le_trans ?_ (Below.size (by assumption))))⟩
  refine ⟨World.ownsRow_nil _ _ _ _, World.ownsRow_nil _ _ _ _, ?_, by simp, by simp, by simp⟩
  have hb : Blk ((w.alloc (.cells #[.slice none 0 0, .slice none 0 0, .slice (some ⟨w.heap.size + 1, 0, none⟩) n.toNat n.toNat] 25)).alloc (.cells (madeCells #[.bool false] n.toNat) 4)) (w.heap.size + 1) 4 (madeCells #[.bool false] n.toNat) := Blk.new_ (by simp) rfl
  have o := Own.of_blk (base := w.heap.size) (mk := Value.bool) (xs := List.replicate n.toNat false) hb (by omega) (by rw [size_madeCells]; simp) (by rw [size_madeCells]; unfold maxLen; omega) (fun j x hx => by
    have e := toList_madeCells_one (.bool false) n.toNat
    rw [← Array.getElem?_toList, e]
    obtain ⟨hj, rfl⟩ := List.getElem?_eq_some_iff.1 hx
    simp only [List.length_replicate] at hj
    simp [hj])
  rw [size_madeCells] at o
  exact o
set_option maxHeartbeats 400000 in
theorem New_bad (n : Int) (w : World) (h : n < 1 ∨ 256 < n) : Calls Try.prog 13 #[.int .i64 n] w fun e w' =>
    e = .returned (.tuple #[.agg #[.slice none 0 0, .slice none 0 0, .slice none 0 0], .int .i64 2]) ∧ Below w.heap.size w w' := by
  rcases h with h | h
  all_goals
    go_enter Try.func13, Try.ntmps13
    go_wp2
    exact bodyPost_ret (v := .tuple #[.agg #[.slice none 0 0, .slice none 0 0, .slice none 0 0], .int .i64 2]) (by simp [results, Try.results13, go_sem]) rfl ⟨rfl, (by repeat' (first | with_reducible exact Below.refl _ _ | with_reducible assumption | with_reducible apply Below.drew | with_reducible apply below_drewN | with_reducible apply Below.alloc | with_reducible apply Below.setCell | (with_reducible refine Below.trans ?_ (Below.mono (by assumption) ?_)) | (simp; done) | (simp; omega) | omega | with_reducible apply le_size_alloc | with_reducible apply le_size_drewN | with_reducible apply le_size_drew | with_reducible apply le_size_setCell | refine Nat.le_trans ?_ (Below.size (by assumption))))⟩

/-- Lists that a call gave back lie in memory. -/
theorem OwnL.mem {w : World} {base : Nat} {A1 A2 A3 : Option Addr} {c1 c2 c3 : Nat} {xs ys : List Int} {rs : List Bool} (h : OwnL w base A1 c1 A2 c2 A3 c3 xs ys rs)
    (la : xs.length ≤ 100000) (li : ys.length ≤ 100000) (lr : rs.length ≤ 100000) (wa : ∀ x ∈ xs, (Lit.int .i64 x).wf = true) (wi : ∀ x ∈ ys, (Lit.int .i64 x).wf = true) : InMem w A1 A2 A3 xs ys rs := by
  have e : ∀ {α : Type} {E : TypeId} {mk : α → Value} {A : Option Addr} {n c : Nat} {zs : List α}, Own w base E mk (.slice A n c) zs → Sl w mk A zs := by
    intro α E mk A n c zs ho
    obtain ⟨A', c', e, hs⟩ := ho.sl
    injection e with e
    subst e
    exact hs
  exact ⟨e h.a, e h.i, e h.r, by omega, by omega, by omega, wa, wi⟩

set_option maxHeartbeats 400000 in
theorem is_yes (Aa Ai Ar Ba Bi Br : Option Addr) (ca ci cr da di dr : Nat) (xs ys : List Int) (rs : List Bool) (w : World) (h : InMem w Aa Ai Ar xs ys rs) (h' : InMem w Ba Bi Br xs ys rs)
    (l1 : xs.length ≤ 100000) (l2 : ys.length ≤ 100000) (l3 : rs.length ≤ 100000) :
    Calls Try.prog 28 #[.agg #[.slice Aa xs.length ca, .slice Ai ys.length ci, .slice Ar rs.length cr], .agg #[.slice Ba xs.length da, .slice Bi ys.length di, .slice Br rs.length dr], .int .i64 0] w fun e w' =>
      e = .returned (.bool true) ∧ Below w.heap.size w w' := by
  obtain ⟨W0, hW0⟩ : ∃ W0, W0 = (w.alloc (.cells #[.slice Aa xs.length ca, .slice Ai ys.length ci, .slice Ar rs.length cr] 25)).alloc (.cells #[.slice Ba xs.length da, .slice Bi ys.length di, .slice Br rs.length dr] 25) := ⟨_, rfl⟩
  have hb0 : Below w.heap.size w W0 := by rw [hW0]; exact (by repeat' (first | with_reducible exact Below.refl _ _ | with_reducible assumption | with_reducible apply Below.drew | with_reducible apply below_drewN | with_reducible apply Below.alloc | with_reducible apply Below.setCell | (with_reducible refine Below.trans ?_ (Below.mono (by assumption) ?_)) | (simp; done) | (simp; omega) | omega | with_reducible apply le_size_alloc | with_reducible apply le_size_drewN | with_reducible apply le_size_drew | with_reducible apply le_size_setCell | refine Nat.le_trans ?_ (Below.size (by assumption))))
  have H1 := Lib.hid (h.ext hb0); have H2 := Lib.hid (h'.ext hb0)
  clear h h' hb0
  subst hW0
  go_enter Try.func28, Try.ntmps28
  go_wp2_with fail
  refine (SameLists_any _ _ _ _ _ _ _ _ _ _ _ _ _ _ _ _ _ _ _ H1.out.a H1.out.i H1.out.r H2.out.a H2.out.i H2.out.r l1 l2 l3 l1 l2 l3).mono ?_
  rw [decide_eq_true (show xs = xs ∧ ys = ys ∧ rs = rs from ⟨rfl, rfl, rfl⟩)]
  rintro e w1 ⟨rfl, hb1⟩
  go_wp2
  go_ret
  exact ⟨by simp, (by repeat' (first | with_reducible exact Below.refl _ _ | with_reducible assumption | with_reducible apply Below.drew | with_reducible apply below_drewN | with_reducible apply Below.alloc | with_reducible apply Below.setCell | (with_reducible refine Below.trans ?_ (Below.mono (by assumption) ?_)) | (simp; done) | (simp; omega) | omega | with_reducible apply le_size_alloc | with_reducible apply le_size_drewN | with_reducible apply le_size_drew | with_reducible apply le_size_setCell | refine Nat.le_trans ?_ (Below.size (by assumption))))⟩

set_option maxRecDepth 100000 in
set_option maxHeartbeats 1000000 in
theorem awake_any (w : World) : Calls Try.prog 11 #[] w fun e w' => e = .returned (.bool true) ∧ Below w.heap.size w w' := by
  go_enter Try.func11, Try.ntmps11
  go_wp2_with fail
  refine (New_ok 8 _ (by omega) (by omega)).mono ?_
  rintro e w1 ⟨A1, c1, A2, c2, A3, c3, rfl, o1, h1⟩
  have m1 := o1.mem (by simp) (by simp) (by simp) (by simp) (by simp)
  go_wp2_with fail
  refine (Add_ok A1 A2 A3 c1 c2 c3 [] [] (List.replicate 8 false) 1 _ (m1.ext (by repeat' (first | with_reducible exact Below.refl _ _ | with_reducible assumption | with_reducible apply Below.drew | with_reducible apply below_drewN | with_reducible apply Below.alloc | with_reducible apply Below.setCell | (with_reducible refine Below.trans ?_ (Below.mono (by assumption) ?_)) | (simp; done) | (simp; omega) | omega | with_reducible apply le_size_alloc | with_reducible apply le_size_drewN | with_reducible apply le_size_drew | with_reducible apply le_size_setCell | refine Nat.le_trans ?_ (Below.size (by assumption))))) (by decide) (by decide)).mono ?_
  rintro e w2 ⟨B1, d1, B2, d2, B3, d3, rfl, o2, h2⟩
  have m2 := o2.mem (by simp) (by simp) (by simp) (by decide) (by simp)
  go_wp2_with fail
  refine (Add_ok B1 B2 B3 d1 d2 d3 [1] [] (List.replicate 8 false) 2 _ (m2.ext (by repeat' (first | with_reducible exact Below.refl _ _ | with_reducible assumption | with_reducible apply Below.drew | with_reducible apply below_drewN | with_reducible apply Below.alloc | with_reducible apply Below.setCell | (with_reducible refine Below.trans ?_ (Below.mono (by assumption) ?_)) | (simp; done) | (simp; omega) | omega | with_reducible apply le_size_alloc | with_reducible apply le_size_drewN | with_reducible apply le_size_drew | with_reducible apply le_size_setCell | refine Nat.le_trans ?_ (Below.size (by assumption))))) (by decide) (by decide)).mono ?_
  rintro e w3 ⟨C1, e1, C2, e2, C3, e3, rfl, o3, h3⟩
  have m3 := o3.mem (by simp) (by simp) (by simp) (by decide) (by simp)
  go_wp2_with fail
  refine (Touch_ok C1 C2 C3 e1 e2 e3 [2, 1] [] (List.replicate 8 false) 1 1 _ (m3.ext (by repeat' (first | with_reducible exact Below.refl _ _ | with_reducible assumption | with_reducible apply Below.drew | with_reducible apply below_drewN | with_reducible apply Below.alloc | with_reducible apply Below.setCell | (with_reducible refine Below.trans ?_ (Below.mono (by assumption) ?_)) | (simp; done) | (simp; omega) | omega | with_reducible apply le_size_alloc | with_reducible apply le_size_drewN | with_reducible apply le_size_drew | with_reducible apply le_size_setCell | refine Nat.le_trans ?_ (Below.size (by assumption))))) (by decide) (by decide) (by decide)).mono ?_
  rintro e w4 ⟨D1, f1, D2, f2, D3, f3, rfl, o4, h4⟩
  have m4 := o4.mem (by simp) (by simp) (by simp) (by decide) (by simp)
  go_wp2_with fail
  go_region_held3 (fun W => W.cell? ⟨w4.heap.size, 0, none⟩ = some (.slice D1 2 f1) ∧ W.cell? ⟨w4.heap.size, 1, none⟩ = some (.slice D2 0 f2) ∧ W.cell? ⟨w4.heap.size, 2, none⟩ = some (.slice D3 8 f3))
    (refine ⟨?_, ?_, ?_⟩ <;> (refine cell_keep (B := w4.heap.size + 1) (a := w4.alloc (.cells #[.slice D1 2 f1, .slice D2 0 f2, .slice D3 8 f3] 25)) (by repeat' (first | with_reducible exact Below.refl _ _ | with_reducible assumption | with_reducible apply Below.drew | with_reducible apply below_drewN | with_reducible apply Below.alloc | with_reducible apply Below.setCell | (with_reducible refine Below.trans ?_ (Below.mono (by assumption) ?_)) | (simp; done) | (simp; omega) | omega | with_reducible apply le_size_alloc | with_reducible apply le_size_drewN | with_reducible apply le_size_drew | with_reducible apply le_size_setCell | refine Nat.le_trans ?_ (Below.size (by assumption)))) (by simp) (by simp)))
    (first
      | (go_at_call 42; refine (lists_one _ _ _ _ _ _ _ _ ?_).mono ?_; (exact (by repeat' (first | with_reducible assumption | (with_reducible refine Blk.new_ ?_ ?_ <;> first | (simp; done) | rfl) | with_reducible apply Blk.drew_ | with_reducible apply Blk.drewN_ | with_reducible apply Blk.alloc_ | with_reducible refine Blk.far_ ?_ ?_ _ | (with_reducible refine Blk.below_ ?_ (by assumption) ?_) | (simp; done) | (simp; omega) | omega | with_reducible apply le_size_alloc | with_reducible apply lt_size_alloc | with_reducible apply le_size_drewN | with_reducible apply le_size_drew | with_reducible apply le_size_setCell | refine Nat.lt_of_lt_of_le ?_ (Below.size (by assumption)) | refine Nat.le_trans ?_ (Below.size (by assumption))))); rintro e w5 ⟨b5, rfl, s5, h5⟩)
      | (go_at_call 28; refine (is_yes D1 D2 D3 _ none (some ⟨b5, 0, none⟩) f1 f2 f3 2 0 8 [2, 1] [] [false, true, false, false, false, false, false, false] _ ?_ ?_ (by simp) (by simp) (by simp)).mono ?_; (exact m4.ext (by repeat' (first | with_reducible exact Below.refl _ _ | with_reducible assumption | with_reducible apply Below.drew | with_reducible apply below_drewN | with_reducible apply Below.alloc | with_reducible apply Below.setCell | (with_reducible refine Below.trans ?_ (Below.mono (by assumption) ?_)) | (simp; done) | (simp; omega) | omega | with_reducible apply le_size_alloc | with_reducible apply le_size_drewN | with_reducible apply le_size_drew | with_reducible apply le_size_setCell | refine Nat.le_trans ?_ (Below.size (by assumption))))); (exact ⟨Sl.of_lit (t := 3) (by repeat' (first | with_reducible assumption | (with_reducible refine Blk.new_ ?_ ?_ <;> first | (simp; done) | rfl) | with_reducible apply Blk.drew_ | with_reducible apply Blk.drewN_ | with_reducible apply Blk.alloc_ | with_reducible refine Blk.far_ ?_ ?_ _ | (with_reducible refine Blk.below_ ?_ (by assumption) ?_) | (simp; done) | (simp; omega) | omega | with_reducible apply le_size_alloc | with_reducible apply lt_size_alloc | with_reducible apply le_size_drewN | with_reducible apply le_size_drew | with_reducible apply le_size_setCell | refine Nat.lt_of_lt_of_le ?_ (Below.size (by assumption)) | refine Nat.le_trans ?_ (Below.size (by assumption)))), Sl.nil, s5, by simp, by simp, by simp, by decide, by simp⟩); rintro e w6 ⟨rfl, h6⟩))
  all_goals
    go_wp2
    go_ret
    exact ⟨by simp, (by repeat' (first | with_reducible exact Below.refl _ _ | with_reducible assumption | with_reducible apply Below.drew | with_reducible apply below_drewN | with_reducible apply Below.alloc | with_reducible apply Below.setCell | (with_reducible refine Below.trans ?_ (Below.mono (by assumption) ?_)) | (simp; done) | (simp; omega) | omega | with_reducible apply le_size_alloc | with_reducible apply le_size_drewN | with_reducible apply le_size_drew | with_reducible apply le_size_setCell | refine Nat.le_trans ?_ (Below.size (by assumption))))⟩
end Go.Proofs.Ytjilfijpepbfeaa
