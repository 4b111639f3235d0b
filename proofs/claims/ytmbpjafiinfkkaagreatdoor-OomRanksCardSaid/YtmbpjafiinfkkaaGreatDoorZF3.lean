/- zone.Fit, whose map literal draws its order. Written by gen_zf3.py. -/
import Derived.Test.YtmbpjafiinfkkaaGreatDoorZF2
namespace Go.Proofs.YtmbpjafiinfkkaaGreatDoor
set_option linter.unusedSimpArgs false
set_option linter.unusedVariables false
open Go.RowKit Go.Maps
open FreeG (Fct)

/-- The first number that is not 0. -/
def fstNZ : List Int → Int
  | [] => 0
  | x :: l => if x = 0 then fstNZ l else x
theorem fstNZ_skip : ∀ (l : List Int) (k : Nat), (∀ x ∈ l.take k, x = 0) → fstNZ l = fstNZ (l.drop k)
  | _, 0, _ => rfl
  | [], _ + 1, _ => rfl
  | x :: l, k + 1, h => by
    have hx : x = 0 := h x (by simp)
    show (if x = 0 then fstNZ l else x) = _
    rw [if_pos hx]
    exact fstNZ_skip l k (fun y hy => h y (by simp [hy]))
theorem fstNZ_at {l : List Int} {k : Nat} {x : Int} (h : ∀ y ∈ l.take k, y = 0) (hx : l[k]? = some x) (hn : x ≠ 0) : fstNZ l = x := by
  rw [fstNZ_skip l k h]
  obtain ⟨hk, rfl⟩ := List.getElem?_eq_some_iff.1 hx
  rw [List.drop_eq_getElem_cons hk]
  exact if_neg hn
theorem fstNZ_all {l : List Int} (h : ∀ y ∈ l, y = 0) : fstNZ l = 0 := by
  rw [fstNZ_skip l l.length (by simpa using h)]
  simp [fstNZ]
def marksV (mn lo hi : Int) : Value := .agg #[.int .i64 mn, .int .i64 lo, .int .i64 hi]
/-- What Fit hands back. -/
def fitV (mn lo hi r : Int) : Value := .tuple #[if r = 0 then marksV mn lo hi else marksV 0 0 0, .int .i64 r]
def nine (z : Int → Int) : List Int := [z 1, z 2, z 3, z 4, z 5, z 6, z 7, z 8, z 9]
def nineM (z : Int → Int) : List (Int × Int) := [(1, z 1), (2, z 2), (3, z 3), (4, z 4), (5, z 5), (6, z 6), (7, z 7), (8, z 8), (9, z 9)]
theorem MapZ.far {w : World} {b n : Nat} {m : List (Int × Int)} (h : MapZ w b n m) {p : Addr} {u : Value} (hp : b ≠ p.block) : MapZ (w.setCell p u) b n m := by
  obtain ⟨D, ⟨es, clock, h1, h⟩, h2⟩ := h
  exact ⟨D, ⟨es, clock, (Below.heap_setCell w p u b hp).trans h1, h⟩, h2⟩
theorem nine_at (z : Int → Int) {xs : List Int} (h : xs = [1, 2, 3, 4, 5, 6, 7, 8, 9]) {k : Nat} {x : Int} (hx : xs[k]? = some x) : ∃ zk, (nine z)[k]? = some zk ∧ (x, zk) ∈ nineM z ∧ 1 ≤ x ∧ x ≤ 9 := by
  subst h
  have hk : k < 9 := (List.getElem?_eq_some_iff.1 hx).1
  obtain h | h | h | h | h | h | h | h | h : k = 0 ∨ k = 1 ∨ k = 2 ∨ k = 3 ∨ k = 4 ∨ k = 5 ∨ k = 6 ∨ k = 7 ∨ k = 8 := by omega
  all_goals
    subst h
    simp at hx
    subst hx
    exact ⟨_, rfl, by simp [nineM], by decide, by decide⟩
theorem take_zero {l : List Int} {k : Nat} (h : ∀ y ∈ l.take k, y = 0) (hx : l[k]? = some 0) : ∀ y ∈ l.take (k + 1), y = 0 := by
  obtain ⟨hk, e⟩ := List.getElem?_eq_some_iff.1 hx
  rw [List.take_succ_eq_append_getElem hk, e]
  intro y hy
  rcases List.mem_append.1 hy with h1 | h1
  · exact h y h1
  · simpa using h1
theorem nine_all {z : Int → Int} {xs : List Int} (h : xs = [1, 2, 3, 4, 5, 6, 7, 8, 9]) {k : Nat} (hk : xs.length ≤ k) (hz : ∀ y ∈ (nine z).take k, y = 0) : ∀ y ∈ nine z, y = 0 := by
  subst h
  rwa [List.take_of_length_le (by simpa [nine] using hk)] at hz

set_option maxRecDepth 100000 in
set_option maxHeartbeats 32000000 in
theorem Fit_z (F L S C Q mn lo hi M : Int) (z : Int → Int) (w : World) (X1 X pool : Int) (hp : pool = wrap64 ((wrap64 (wrap64 (Q + 8) - 1)).tdiv 8)) (hX1 : X1 = wrap64 (F - 12)) (hX : X = wrap64 (X1 - pool))
    (hz1 : z 1 = if (decide (16 ≤ F) && decide (F ≤ 256)) = true then 0 else 2)
    (hz2 : z 2 = if (decide (1 ≤ L) && decide (L ≤ F)) = true then 0 else 2)
    (hz3 : z 3 = if (decide (1 ≤ S) && decide (S ≤ 256)) = true then 0 else 2)
    (hz4 : z 4 = if (decide (1 ≤ C) && decide (C ≤ 16)) = true then 0 else 2)
    (hz5 : z 5 = if (decide (C < Q) && decide (Q ≤ 32)) = true then 0 else 2)
    (hz6 : z 6 = if (decide (1 ≤ M) && decide (M ≤ 64)) = true then 0 else 2)
    (hz7 : z 7 = if (decide (C < mn)) = true then 0 else 8)
    (hz8 : z 8 = if (decide (mn < lo) && decide (lo < hi)) = true then 0 else 8)
    (hz9 : z 9 = if (decide (hi ≤ X)) = true then 0 else 8) :
    Calls Tryz.prog 53 #[.agg #[.int .i64 F, .int .i64 L, .int .i64 S, .int .i64 C, .int .i64 Q, .int .i64 mn, .int .i64 lo, .int .i64 hi, .int .i64 M]] w fun e w' => e = .returned (fitV mn lo hi (fstNZ (nine z))) ∧ Below w.heap.size w w' := by
  have hwf1 : (Lit.int .i64 (z 1)).wf = true := by rw [hz1]; split <;> decide
  have hu1 : ∀ w, Calls Tryz.prog 75 #[.bool (decide (16 ≤ F) && decide (F ≤ 256)), .int .i64 2] w fun en w' => en = .returned (.int .i64 (z 1)) ∧ w = w' := fun w => by rw [hz1]; exact unless_any _ _ w
  have hwf2 : (Lit.int .i64 (z 2)).wf = true := by rw [hz2]; split <;> decide
  have hu2 : ∀ w, Calls Tryz.prog 75 #[.bool (decide (1 ≤ L) && decide (L ≤ F)), .int .i64 2] w fun en w' => en = .returned (.int .i64 (z 2)) ∧ w = w' := fun w => by rw [hz2]; exact unless_any _ _ w
  have hwf3 : (Lit.int .i64 (z 3)).wf = true := by rw [hz3]; split <;> decide
  have hu3 : ∀ w, Calls Tryz.prog 75 #[.bool (decide (1 ≤ S) && decide (S ≤ 256)), .int .i64 2] w fun en w' => en = .returned (.int .i64 (z 3)) ∧ w = w' := fun w => by rw [hz3]; exact unless_any _ _ w
  have hwf4 : (Lit.int .i64 (z 4)).wf = true := by rw [hz4]; split <;> decide
  have hu4 : ∀ w, Calls Tryz.prog 75 #[.bool (decide (1 ≤ C) && decide (C ≤ 16)), .int .i64 2] w fun en w' => en = .returned (.int .i64 (z 4)) ∧ w = w' := fun w => by rw [hz4]; exact unless_any _ _ w
  have hwf5 : (Lit.int .i64 (z 5)).wf = true := by rw [hz5]; split <;> decide
  have hu5 : ∀ w, Calls Tryz.prog 75 #[.bool (decide (C < Q) && decide (Q ≤ 32)), .int .i64 2] w fun en w' => en = .returned (.int .i64 (z 5)) ∧ w = w' := fun w => by rw [hz5]; exact unless_any _ _ w
  have hwf6 : (Lit.int .i64 (z 6)).wf = true := by rw [hz6]; split <;> decide
  have hu6 : ∀ w, Calls Tryz.prog 75 #[.bool (decide (1 ≤ M) && decide (M ≤ 64)), .int .i64 2] w fun en w' => en = .returned (.int .i64 (z 6)) ∧ w = w' := fun w => by rw [hz6]; exact unless_any _ _ w
  have hwf7 : (Lit.int .i64 (z 7)).wf = true := by rw [hz7]; split <;> decide
  have hu7 : ∀ w, Calls Tryz.prog 75 #[.bool (decide (C < mn)), .int .i64 8] w fun en w' => en = .returned (.int .i64 (z 7)) ∧ w = w' := fun w => by rw [hz7]; exact unless_any _ _ w
  have hwf8 : (Lit.int .i64 (z 8)).wf = true := by rw [hz8]; split <;> decide
  have hu8 : ∀ w, Calls Tryz.prog 75 #[.bool (decide (mn < lo) && decide (lo < hi)), .int .i64 8] w fun en w' => en = .returned (.int .i64 (z 8)) ∧ w = w' := fun w => by rw [hz8]; exact unless_any _ _ w
  have hwf9 : (Lit.int .i64 (z 9)).wf = true := by rw [hz9]; split <;> decide
  have hu9 : ∀ w, Calls Tryz.prog 75 #[.bool (decide (hi ≤ X)), .int .i64 8] w fun en w' => en = .returned (.int .i64 (z 9)) ∧ w = w' := fun w => by rw [hz9]; exact unless_any _ _ w
  clear hz1 hz2 hz3 hz4 hz5 hz6 hz7 hz8 hz9
  have HP := Lib.hid hp; have HX1 := Lib.hid hX1; have HX := Lib.hid hX
  clear hp hX1 hX
  go_enter Tryz.func53, Tryz.ntmps53
  go_wp2_with fail
  obtain ⟨V, hV⟩ : ∃ V, (w.alloc (.cells #[.int .i64 F, .int .i64 L, .int .i64 S, .int .i64 C, .int .i64 Q, .int .i64 mn, .int .i64 lo, .int .i64 hi, .int .i64 M] 46)).alloc (.cells #[.int .i64 0, .int .i64 0, .int .i64 0] 84) = V := ⟨_, rfl⟩
  have BV : Below w.heap.size w V := by rw [← hV]; exact (by repeat' (first | with_reducible exact Below.refl _ _ | with_reducible assumption | with_reducible apply Below.drew | with_reducible apply below_drewN | with_reducible apply Below.alloc | with_reducible apply Below.setCell | (with_reducible refine Below.trans ?_ (Below.mono (by assumption) ?_)) | (simp; done) | (simp; omega) | omega | with_reducible apply le_size_alloc | with_reducible apply le_size_drewN | with_reducible apply le_size_drew | with_reducible apply le_size_setCell | refine Nat.le_trans ?_ (Below.size (by assumption))))
  obtain ⟨B, hB⟩ : ∃ B, w.heap.size = B := ⟨_, rfl⟩
  have kB : Blk V B 46 #[.int .i64 F, .int .i64 L, .int .i64 S, .int .i64 C, .int .i64 Q, .int .i64 mn, .int .i64 lo, .int .i64 hi, .int .i64 M] := by rw [← hV, ← hB]; exact (by repeat' (first | with_reducible assumption | (with_reducible refine Blk.new_ ?_ ?_ <;> first | (simp; done) | rfl) | with_reducible apply Blk.drew_ | with_reducible apply Blk.drewN_ | with_reducible apply Blk.alloc_ | with_reducible refine Blk.far_ ?_ ?_ _ | (with_reducible refine Blk.below_ ?_ (by assumption) ?_) | (simp; done) | (simp; omega) | omega | with_reducible apply le_size_alloc | with_reducible apply lt_size_alloc | with_reducible apply le_size_drewN | with_reducible apply le_size_drew | with_reducible apply le_size_setCell | refine Nat.lt_of_lt_of_le ?_ (Below.size (by assumption)) | refine Nat.le_trans ?_ (Below.size (by assumption))))
  have kR : Blk V (B + 1) 84 #[.int .i64 0, .int .i64 0, .int .i64 0] := by rw [← hV, ← hB]; exact (by repeat' (first | with_reducible assumption | (with_reducible refine Blk.new_ ?_ ?_ <;> first | (simp; done) | rfl) | with_reducible apply Blk.drew_ | with_reducible apply Blk.drewN_ | with_reducible apply Blk.alloc_ | with_reducible refine Blk.far_ ?_ ?_ _ | (with_reducible refine Blk.below_ ?_ (by assumption) ?_) | (simp; done) | (simp; omega) | omega | with_reducible apply le_size_alloc | with_reducible apply lt_size_alloc | with_reducible apply le_size_drewN | with_reducible apply le_size_drew | with_reducible apply le_size_setCell | refine Nat.lt_of_lt_of_le ?_ (Below.size (by assumption)) | refine Nat.le_trans ?_ (Below.size (by assumption))))
  rw [hV]
  simp only [hB]
  rw [← HP.out]
  obtain ⟨b0, hbq⟩ : ∃ b0, V.heap.size = b0 := ⟨_, rfl⟩
  have hBb : B < b0 := by rw [← hbq]; exact kB.lt
  have hb1 : b0 ≤ V.heap.size := by omega
  have hBw : w.heap.size ≤ B := by omega
  clear hV hB
  simp only [List.append_eq, List.cons_append, List.nil_append]
  refine FreeG.wp_region_chainG (BelM.rel z b0) (.has (MkF z b0) :: .is (.pointer (some ⟨B, 0, none⟩)) :: .is (.int .i64 F) :: .is (.bool (decide (16 ≤ F))) :: .is (.bool (decide (16 ≤ F))) :: .is (if 16 ≤ F then .pointer (some ⟨B, 0, none⟩) else undef) :: .is (if 16 ≤ F then .int .i64 F else undef) :: .is (if 16 ≤ F then .bool (decide (F ≤ 256)) else undef) :: .is (.bool (decide (16 ≤ F) && decide (F ≤ 256))) :: .is (.int .i64 (z 1)) :: .fro 0 (EnF 1 z) :: .is (.pointer (some ⟨B, 1, none⟩)) :: .is (.int .i64 L) :: .is (.bool (decide (1 ≤ L))) :: .is (.bool (decide (1 ≤ L))) :: .is (if 1 ≤ L then .pointer (some ⟨B, 1, none⟩) else undef) :: .is (if 1 ≤ L then .int .i64 L else undef) :: .is (if 1 ≤ L then .pointer (some ⟨B, 0, none⟩) else undef) :: .is (if 1 ≤ L then .int .i64 F else undef) :: .is (if 1 ≤ L then .bool (decide (L ≤ F)) else undef) :: .is (.bool (decide (1 ≤ L) && decide (L ≤ F))) :: .is (.int .i64 (z 2)) :: .fro 0 (EnF 2 z) :: .is (.pointer (some ⟨B, 2, none⟩)) :: .is (.int .i64 S) :: .is (.bool (decide (1 ≤ S))) :: .is (.bool (decide (1 ≤ S))) :: .is (if 1 ≤ S then .pointer (some ⟨B, 2, none⟩) else undef) :: .is (if 1 ≤ S then .int .i64 S else undef) :: .is (if 1 ≤ S then .bool (decide (S ≤ 256)) else undef) :: .is (.bool (decide (1 ≤ S) && decide (S ≤ 256))) :: .is (.int .i64 (z 3)) :: .fro 0 (EnF 3 z) :: .is (.pointer (some ⟨B, 3, none⟩)) :: .is (.int .i64 C) :: .is (.bool (decide (1 ≤ C))) :: .is (.bool (decide (1 ≤ C))) :: .is (if 1 ≤ C then .pointer (some ⟨B, 3, none⟩) else undef) :: .is (if 1 ≤ C then .int .i64 C else undef) :: .is (if 1 ≤ C then .bool (decide (C ≤ 16)) else undef) :: .is (.bool (decide (1 ≤ C) && decide (C ≤ 16))) :: .is (.int .i64 (z 4)) :: .fro 0 (EnF 4 z) :: .is (.pointer (some ⟨B, 4, none⟩)) :: .is (.int .i64 Q) :: .is (.pointer (some ⟨B, 3, none⟩)) :: .is (.int .i64 C) :: .is (.bool (decide (C < Q))) :: .is (.bool (decide (C < Q))) :: .is (if C < Q then .pointer (some ⟨B, 4, none⟩) else undef) :: .is (if C < Q then .int .i64 Q else undef) :: .is (if C < Q then .bool (decide (Q ≤ 32)) else undef) :: .is (.bool (decide (C < Q) && decide (Q ≤ 32))) :: .is (.int .i64 (z 5)) :: .fro 0 (EnF 5 z) :: .is (.pointer (some ⟨B, 8, none⟩)) :: .is (.int .i64 M) :: .is (.bool (decide (1 ≤ M))) :: .is (.bool (decide (1 ≤ M))) :: .is (if 1 ≤ M then .pointer (some ⟨B, 8, none⟩) else undef) :: .is (if 1 ≤ M then .int .i64 M else undef) :: .is (if 1 ≤ M then .bool (decide (M ≤ 64)) else undef) :: .is (.bool (decide (1 ≤ M) && decide (M ≤ 64))) :: .is (.int .i64 (z 6)) :: .fro 0 (EnF 6 z) :: .is (.pointer (some ⟨B, 5, none⟩)) :: .is (.int .i64 mn) :: .is (.pointer (some ⟨B, 3, none⟩)) :: .is (.int .i64 C) :: .is (.bool (decide (C < mn))) :: .is (.int .i64 (z 7)) :: .fro 0 (EnF 7 z) :: .is (.pointer (some ⟨B, 5, none⟩)) :: .is (.int .i64 mn) :: .is (.pointer (some ⟨B, 6, none⟩)) :: .is (.int .i64 lo) :: .is (.pointer (some ⟨B, 7, none⟩)) :: .is (.int .i64 hi) :: .is (.agg #[.int .i64 mn, .int .i64 lo, .int .i64 hi]) :: .is (.bool (decide (mn < lo) && decide (lo < hi))) :: .is (.int .i64 (z 8)) :: .fro 0 (EnF 8 z) :: .is (.pointer (some ⟨B, 7, none⟩)) :: .is (.int .i64 hi) :: .is (.pointer (some ⟨B, 0, none⟩)) :: .is (.int .i64 F) :: .is (.int .i64 X1) :: .is (.int .i64 pool) :: .is (.int .i64 X) :: .is (.bool (decide (hi ≤ X))) :: .is (.int .i64 (z 9)) :: .fro 0 (EnF 9 z) :: .fro 0 (fun u v _ => v = u) :: .fro 0 (fun u v _ => v = u) :: []) (none :: none :: none :: none :: none :: none :: none :: none :: none :: none :: some 0 :: none :: none :: none :: none :: none :: none :: none :: none :: none :: none :: none :: some 0 :: none :: none :: none :: none :: none :: none :: none :: none :: none :: some 0 :: none :: none :: none :: none :: none :: none :: none :: none :: none :: some 0 :: none :: none :: none :: none :: none :: none :: none :: none :: none :: none :: none :: some 0 :: none :: none :: none :: none :: none :: none :: none :: none :: none :: some 0 :: none :: none :: none :: none :: none :: none :: some 0 :: none :: none :: none :: none :: none :: none :: none :: none :: none :: some 0 :: none :: none :: none :: none :: none :: none :: none :: none :: none :: some 0 :: some 0 :: some 0 :: []) (by rfl) (by kernel_rfl) (by kernel_rfl) (by kernel_rfl) (by kernel_rfl) (FreeG.lasts_has (MkF.lasts z b0) (FreeG.lasts_is (FreeG.lasts_is (FreeG.lasts_is (FreeG.lasts_is (FreeG.lasts_is (FreeG.lasts_is (FreeG.lasts_is (FreeG.lasts_is (FreeG.lasts_is (FreeG.lasts_fro (EnF.lasts 0 1 z b0) (FreeG.lasts_is (FreeG.lasts_is (FreeG.lasts_is (FreeG.lasts_is (FreeG.lasts_is (FreeG.lasts_is (FreeG.lasts_is (FreeG.lasts_is (FreeG.lasts_is (FreeG.lasts_is (FreeG.lasts_is (FreeG.lasts_fro (EnF.lasts 0 2 z b0) (FreeG.lasts_is (FreeG.lasts_is (FreeG.lasts_is (FreeG.lasts_is (FreeG.lasts_is (FreeG.lasts_is (FreeG.lasts_is (FreeG.lasts_is (FreeG.lasts_is (FreeG.lasts_fro (EnF.lasts 0 3 z b0) (FreeG.lasts_is (FreeG.lasts_is (FreeG.lasts_is (FreeG.lasts_is (FreeG.lasts_is (FreeG.lasts_is (FreeG.lasts_is (FreeG.lasts_is (FreeG.lasts_is (FreeG.lasts_fro (EnF.lasts 0 4 z b0) (FreeG.lasts_is (FreeG.lasts_is (FreeG.lasts_is (FreeG.lasts_is (FreeG.lasts_is (FreeG.lasts_is (FreeG.lasts_is (FreeG.lasts_is (FreeG.lasts_is (FreeG.lasts_is (FreeG.lasts_is (FreeG.lasts_fro (EnF.lasts 0 5 z b0) (FreeG.lasts_is (FreeG.lasts_is (FreeG.lasts_is (FreeG.lasts_is (FreeG.lasts_is (FreeG.lasts_is (FreeG.lasts_is (FreeG.lasts_is (FreeG.lasts_is (FreeG.lasts_fro (EnF.lasts 0 6 z b0) (FreeG.lasts_is (FreeG.lasts_is (FreeG.lasts_is (FreeG.lasts_is (FreeG.lasts_is (FreeG.lasts_is (FreeG.lasts_fro (EnF.lasts 0 7 z b0) (FreeG.lasts_is (FreeG.lasts_is (FreeG.lasts_is (FreeG.lasts_is (FreeG.lasts_is (FreeG.lasts_is (FreeG.lasts_is (FreeG.lasts_is (FreeG.lasts_is (FreeG.lasts_fro (EnF.lasts 0 8 z b0) (FreeG.lasts_is (FreeG.lasts_is (FreeG.lasts_is (FreeG.lasts_is (FreeG.lasts_is (FreeG.lasts_is (FreeG.lasts_is (FreeG.lasts_is (FreeG.lasts_is (FreeG.lasts_fro (EnF.lasts 0 9 z b0) (FreeG.lasts_fro (fun _ _ _ _ h _ => h) (FreeG.lasts_fro (fun _ _ _ _ h _ => h) FreeG.lasts_nil)))))))))))))))))))))))))))))))))))))))))))))))))))))))))))))))))))))))))))))))))))))))))))))) (fun W0 hb0 hz0 => ?_)
  have k0 := kB.below_ (hb0.below (by omega)) hBb
  refine FreeG.chain_has ?s0 (fun v0 => ?r0)
  case s0 =>
    intro w hbw hd K Q' hK
    clear hd
    go_simp
    refine hK.out (.map (some w.heap.size)) _ _ ?_ ?_ ?_
    rotate_left
    · exact BelM.of_below (Below.alloc (Below.refl _ _) (Nat.le_refl _) _)
    · exact ⟨_, rfl, by have := hbw.size; omega, GoodM.new_ z _⟩
    · (try simp only [Act.put, List.setIfInBounds_toArray, List.set_cons_zero, List.set_cons_succ, List.nil_append, List.cons_append])
  (try simp only [Act.put, List.setIfInBounds_toArray, List.set_cons_zero, List.set_cons_succ, List.nil_append, List.cons_append])
  refine FreeG.chain_is (FreeG.step_take (BelM.rel z b0) (by rfl) ?y1) ?r1
  case y1 =>
    intro w hbw hd
    clear hd
    go_simp
    first | done | with_reducible rfl | rfl
  (try simp only [Act.put, List.setIfInBounds_toArray, List.set_cons_zero, List.set_cons_succ, List.nil_append, List.cons_append])
  refine FreeG.chain_is (FreeG.step_take (BelM.rel z b0) (by rfl) ?y2) ?r2
  case y2 =>
    intro w hbw hd
    clear hd
    have kw := k0.below_ (hbw.below (by omega)) hBb
    have q := kw.cell_ 0
    simp at q
    go_simp
    first | done | with_reducible rfl | rfl
  (try simp only [Act.put, List.setIfInBounds_toArray, List.set_cons_zero, List.set_cons_succ, List.nil_append, List.cons_append])
  refine FreeG.chain_is (FreeG.step_take (BelM.rel z b0) (by rfl) ?y3) ?r3
  case y3 =>
    intro w hbw hd
    clear hd
    go_simp
    first | done | with_reducible rfl | rfl
  (try simp only [Act.put, List.setIfInBounds_toArray, List.set_cons_zero, List.set_cons_succ, List.nil_append, List.cons_append])
  refine FreeG.chain_is (FreeG.step_take (BelM.rel z b0) (by rfl) ?y4) ?r4
  case y4 =>
    intro w hbw hd
    clear hd
    go_simp
    first | done | with_reducible rfl | rfl
  (try simp only [Act.put, List.setIfInBounds_toArray, List.set_cons_zero, List.set_cons_succ, List.nil_append, List.cons_append])
  refine FreeG.chain_is (FreeG.step_gd (BelM.rel z b0) (c := 16 ≤ F) (by show 16 ≤ F ↔ (some (decide (16 ≤ F)) == some true) = true; simp) ?y5) ?r5
  case y5 =>
    intro hc w hbw hd
    clear hd
    (try simp only [if_pos hc])
    go_simp
    first | done | with_reducible rfl | rfl
  (try simp only [Act.put, List.setIfInBounds_toArray, List.set_cons_zero, List.set_cons_succ, List.nil_append, List.cons_append])
  refine FreeG.chain_is (FreeG.step_gd (BelM.rel z b0) (c := 16 ≤ F) (by show 16 ≤ F ↔ (some (decide (16 ≤ F)) == some true) = true; simp) ?y6) ?r6
  case y6 =>
    intro hc w hbw hd
    clear hd
    have kw := k0.below_ (hbw.below (by omega)) hBb
    have q := kw.cell_ 0
    simp at q
    (try simp only [if_pos hc])
    go_simp
    first | done | with_reducible rfl | rfl
  (try simp only [Act.put, List.setIfInBounds_toArray, List.set_cons_zero, List.set_cons_succ, List.nil_append, List.cons_append])
  refine FreeG.chain_is (FreeG.step_gd (BelM.rel z b0) (c := 16 ≤ F) (by show 16 ≤ F ↔ (some (decide (16 ≤ F)) == some true) = true; simp) ?y7) ?r7
  case y7 =>
    intro hc w hbw hd
    clear hd
    (try simp only [if_pos hc])
    go_simp
    first | done | with_reducible rfl | rfl
  (try simp only [Act.put, List.setIfInBounds_toArray, List.set_cons_zero, List.set_cons_succ, List.nil_append, List.cons_append])
  refine FreeG.chain_is (FreeG.step_take (BelM.rel z b0) (by rfl) ?y8) ?r8
  case y8 =>
    intro w hbw hd
    clear hd
    by_cases hc : 16 ≤ F
    · simp only [if_pos hc, hc, decide_true, Bool.true_and]
      go_simp
      first | done | with_reducible rfl | rfl
    · simp only [if_neg hc, hc, decide_false, Bool.false_and]
      go_simp
      first | done | with_reducible rfl | rfl
  (try simp only [Act.put, List.setIfInBounds_toArray, List.set_cons_zero, List.set_cons_succ, List.nil_append, List.cons_append])
  refine FreeG.chain_is ?s9 ?r9
  case s9 =>
    intro w hbw hd K Q' hK
    clear hd
    go_simp
    (go_at_call 75; refine (hu1 _).mono ?_; rintro e w' ⟨rfl, rfl⟩)
    refine hK.out (.int .i64 (z 1)) _ _ ?_ ?_ ?_
    rotate_left
    · exact (BelM.rel z b0).refl _ _
    · rfl
    · (try simp only [Act.put, List.setIfInBounds_toArray, List.set_cons_zero, List.set_cons_succ, List.nil_append, List.cons_append])
  (try simp only [Act.put, List.setIfInBounds_toArray, List.set_cons_zero, List.set_cons_succ, List.nil_append, List.cons_append])
  refine FreeG.chain_fro (step_insert 0 1 (by rfl) _ _ _ rfl (by rfl) rfl rfl rfl rfl rfl (by decide) (by decide) hwf1) (fun v10 => ?r10)
  (try simp only [Act.put, List.setIfInBounds_toArray, List.set_cons_zero, List.set_cons_succ, List.nil_append, List.cons_append])
  refine FreeG.chain_is (FreeG.step_take (BelM.rel z b0) (by rfl) ?y11) ?r11
  case y11 =>
    intro w hbw hd
    clear hd
    go_simp
    first | done | with_reducible rfl | rfl
  (try simp only [Act.put, List.setIfInBounds_toArray, List.set_cons_zero, List.set_cons_succ, List.nil_append, List.cons_append])
  refine FreeG.chain_is (FreeG.step_take (BelM.rel z b0) (by rfl) ?y12) ?r12
  case y12 =>
    intro w hbw hd
    clear hd
    have kw := k0.below_ (hbw.below (by omega)) hBb
    have q := kw.cell_ 1
    simp at q
    go_simp
    first | done | with_reducible rfl | rfl
  (try simp only [Act.put, List.setIfInBounds_toArray, List.set_cons_zero, List.set_cons_succ, List.nil_append, List.cons_append])
  refine FreeG.chain_is (FreeG.step_take (BelM.rel z b0) (by rfl) ?y13) ?r13
  case y13 =>
    intro w hbw hd
    clear hd
    go_simp
    first | done | with_reducible rfl | rfl
  (try simp only [Act.put, List.setIfInBounds_toArray, List.set_cons_zero, List.set_cons_succ, List.nil_append, List.cons_append])
  refine FreeG.chain_is (FreeG.step_take (BelM.rel z b0) (by rfl) ?y14) ?r14
  case y14 =>
    intro w hbw hd
    clear hd
    go_simp
    first | done | with_reducible rfl | rfl
  (try simp only [Act.put, List.setIfInBounds_toArray, List.set_cons_zero, List.set_cons_succ, List.nil_append, List.cons_append])
  refine FreeG.chain_is (FreeG.step_gd (BelM.rel z b0) (c := 1 ≤ L) (by show 1 ≤ L ↔ (some (decide (1 ≤ L)) == some true) = true; simp) ?y15) ?r15
  case y15 =>
    intro hc w hbw hd
    clear hd
    (try simp only [if_pos hc])
    go_simp
    first | done | with_reducible rfl | rfl
  (try simp only [Act.put, List.setIfInBounds_toArray, List.set_cons_zero, List.set_cons_succ, List.nil_append, List.cons_append])
  refine FreeG.chain_is (FreeG.step_gd (BelM.rel z b0) (c := 1 ≤ L) (by show 1 ≤ L ↔ (some (decide (1 ≤ L)) == some true) = true; simp) ?y16) ?r16
  case y16 =>
    intro hc w hbw hd
    clear hd
    have kw := k0.below_ (hbw.below (by omega)) hBb
    have q := kw.cell_ 1
    simp at q
    (try simp only [if_pos hc])
    go_simp
    first | done | with_reducible rfl | rfl
  (try simp only [Act.put, List.setIfInBounds_toArray, List.set_cons_zero, List.set_cons_succ, List.nil_append, List.cons_append])
  refine FreeG.chain_is (FreeG.step_gd (BelM.rel z b0) (c := 1 ≤ L) (by show 1 ≤ L ↔ (some (decide (1 ≤ L)) == some true) = true; simp) ?y17) ?r17
  case y17 =>
    intro hc w hbw hd
    clear hd
    (try simp only [if_pos hc])
    go_simp
    first | done | with_reducible rfl | rfl
  (try simp only [Act.put, List.setIfInBounds_toArray, List.set_cons_zero, List.set_cons_succ, List.nil_append, List.cons_append])
  refine FreeG.chain_is (FreeG.step_gd (BelM.rel z b0) (c := 1 ≤ L) (by show 1 ≤ L ↔ (some (decide (1 ≤ L)) == some true) = true; simp) ?y18) ?r18
  case y18 =>
    intro hc w hbw hd
    clear hd
    have kw := k0.below_ (hbw.below (by omega)) hBb
    have q := kw.cell_ 0
    simp at q
    (try simp only [if_pos hc])
    go_simp
    first | done | with_reducible rfl | rfl
  (try simp only [Act.put, List.setIfInBounds_toArray, List.set_cons_zero, List.set_cons_succ, List.nil_append, List.cons_append])
  refine FreeG.chain_is (FreeG.step_gd (BelM.rel z b0) (c := 1 ≤ L) (by show 1 ≤ L ↔ (some (decide (1 ≤ L)) == some true) = true; simp) ?y19) ?r19
  case y19 =>
    intro hc w hbw hd
    clear hd
    (try simp only [if_pos hc])
    go_simp
    first | done | with_reducible rfl | rfl
  (try simp only [Act.put, List.setIfInBounds_toArray, List.set_cons_zero, List.set_cons_succ, List.nil_append, List.cons_append])
  refine FreeG.chain_is (FreeG.step_take (BelM.rel z b0) (by rfl) ?y20) ?r20
  case y20 =>
    intro w hbw hd
    clear hd
    by_cases hc : 1 ≤ L
    · simp only [if_pos hc, hc, decide_true, Bool.true_and]
      go_simp
      first | done | with_reducible rfl | rfl
    · simp only [if_neg hc, hc, decide_false, Bool.false_and]
      go_simp
      first | done | with_reducible rfl | rfl
  (try simp only [Act.put, List.setIfInBounds_toArray, List.set_cons_zero, List.set_cons_succ, List.nil_append, List.cons_append])
  refine FreeG.chain_is ?s21 ?r21
  case s21 =>
    intro w hbw hd K Q' hK
    clear hd
    go_simp
    (go_at_call 75; refine (hu2 _).mono ?_; rintro e w' ⟨rfl, rfl⟩)
    refine hK.out (.int .i64 (z 2)) _ _ ?_ ?_ ?_
    rotate_left
    · exact (BelM.rel z b0).refl _ _
    · rfl
    · (try simp only [Act.put, List.setIfInBounds_toArray, List.set_cons_zero, List.set_cons_succ, List.nil_append, List.cons_append])
  (try simp only [Act.put, List.setIfInBounds_toArray, List.set_cons_zero, List.set_cons_succ, List.nil_append, List.cons_append])
  refine FreeG.chain_fro (step_insert 0 2 (by rfl) _ _ _ rfl (by rfl) rfl rfl rfl rfl rfl (by decide) (by decide) hwf2) (fun v22 => ?r22)
  (try simp only [Act.put, List.setIfInBounds_toArray, List.set_cons_zero, List.set_cons_succ, List.nil_append, List.cons_append])
  refine FreeG.chain_is (FreeG.step_take (BelM.rel z b0) (by rfl) ?y23) ?r23
  case y23 =>
    intro w hbw hd
    clear hd
    go_simp
    first | done | with_reducible rfl | rfl
  (try simp only [Act.put, List.setIfInBounds_toArray, List.set_cons_zero, List.set_cons_succ, List.nil_append, List.cons_append])
  refine FreeG.chain_is (FreeG.step_take (BelM.rel z b0) (by rfl) ?y24) ?r24
  case y24 =>
    intro w hbw hd
    clear hd
    have kw := k0.below_ (hbw.below (by omega)) hBb
    have q := kw.cell_ 2
    simp at q
    go_simp
    first | done | with_reducible rfl | rfl
  (try simp only [Act.put, List.setIfInBounds_toArray, List.set_cons_zero, List.set_cons_succ, List.nil_append, List.cons_append])
  refine FreeG.chain_is (FreeG.step_take (BelM.rel z b0) (by rfl) ?y25) ?r25
  case y25 =>
    intro w hbw hd
    clear hd
    go_simp
    first | done | with_reducible rfl | rfl
  (try simp only [Act.put, List.setIfInBounds_toArray, List.set_cons_zero, List.set_cons_succ, List.nil_append, List.cons_append])
  refine FreeG.chain_is (FreeG.step_take (BelM.rel z b0) (by rfl) ?y26) ?r26
  case y26 =>
    intro w hbw hd
    clear hd
    go_simp
    first | done | with_reducible rfl | rfl
  (try simp only [Act.put, List.setIfInBounds_toArray, List.set_cons_zero, List.set_cons_succ, List.nil_append, List.cons_append])
  refine FreeG.chain_is (FreeG.step_gd (BelM.rel z b0) (c := 1 ≤ S) (by show 1 ≤ S ↔ (some (decide (1 ≤ S)) == some true) = true; simp) ?y27) ?r27
  case y27 =>
    intro hc w hbw hd
    clear hd
    (try simp only [if_pos hc])
    go_simp
    first | done | with_reducible rfl | rfl
  (try simp only [Act.put, List.setIfInBounds_toArray, List.set_cons_zero, List.set_cons_succ, List.nil_append, List.cons_append])
  refine FreeG.chain_is (FreeG.step_gd (BelM.rel z b0) (c := 1 ≤ S) (by show 1 ≤ S ↔ (some (decide (1 ≤ S)) == some true) = true; simp) ?y28) ?r28
  case y28 =>
    intro hc w hbw hd
    clear hd
    have kw := k0.below_ (hbw.below (by omega)) hBb
    have q := kw.cell_ 2
    simp at q
    (try simp only [if_pos hc])
    go_simp
    first | done | with_reducible rfl | rfl
  (try simp only [Act.put, List.setIfInBounds_toArray, List.set_cons_zero, List.set_cons_succ, List.nil_append, List.cons_append])
  refine FreeG.chain_is (FreeG.step_gd (BelM.rel z b0) (c := 1 ≤ S) (by show 1 ≤ S ↔ (some (decide (1 ≤ S)) == some true) = true; simp) ?y29) ?r29
  case y29 =>
    intro hc w hbw hd
    clear hd
    (try simp only [if_pos hc])
    go_simp
    first | done | with_reducible rfl | rfl
  (try simp only [Act.put, List.setIfInBounds_toArray, List.set_cons_zero, List.set_cons_succ, List.nil_append, List.cons_append])
  refine FreeG.chain_is (FreeG.step_take (BelM.rel z b0) (by rfl) ?y30) ?r30
  case y30 =>
    intro w hbw hd
    clear hd
    by_cases hc : 1 ≤ S
    · simp only [if_pos hc, hc, decide_true, Bool.true_and]
      go_simp
      first | done | with_reducible rfl | rfl
    · simp only [if_neg hc, hc, decide_false, Bool.false_and]
      go_simp
      first | done | with_reducible rfl | rfl
  (try simp only [Act.put, List.setIfInBounds_toArray, List.set_cons_zero, List.set_cons_succ, List.nil_append, List.cons_append])
  refine FreeG.chain_is ?s31 ?r31
  case s31 =>
    intro w hbw hd K Q' hK
    clear hd
    go_simp
    (go_at_call 75; refine (hu3 _).mono ?_; rintro e w' ⟨rfl, rfl⟩)
    refine hK.out (.int .i64 (z 3)) _ _ ?_ ?_ ?_
    rotate_left
    · exact (BelM.rel z b0).refl _ _
    · rfl
    · (try simp only [Act.put, List.setIfInBounds_toArray, List.set_cons_zero, List.set_cons_succ, List.nil_append, List.cons_append])
  (try simp only [Act.put, List.setIfInBounds_toArray, List.set_cons_zero, List.set_cons_succ, List.nil_append, List.cons_append])
  refine FreeG.chain_fro (step_insert 0 3 (by rfl) _ _ _ rfl (by rfl) rfl rfl rfl rfl rfl (by decide) (by decide) hwf3) (fun v32 => ?r32)
  (try simp only [Act.put, List.setIfInBounds_toArray, List.set_cons_zero, List.set_cons_succ, List.nil_append, List.cons_append])
  refine FreeG.chain_is (FreeG.step_take (BelM.rel z b0) (by rfl) ?y33) ?r33
  case y33 =>
    intro w hbw hd
    clear hd
    go_simp
    first | done | with_reducible rfl | rfl
  (try simp only [Act.put, List.setIfInBounds_toArray, List.set_cons_zero, List.set_cons_succ, List.nil_append, List.cons_append])
  refine FreeG.chain_is (FreeG.step_take (BelM.rel z b0) (by rfl) ?y34) ?r34
  case y34 =>
    intro w hbw hd
    clear hd
    have kw := k0.below_ (hbw.below (by omega)) hBb
    have q := kw.cell_ 3
    simp at q
    go_simp
    first | done | with_reducible rfl | rfl
  (try simp only [Act.put, List.setIfInBounds_toArray, List.set_cons_zero, List.set_cons_succ, List.nil_append, List.cons_append])
  refine FreeG.chain_is (FreeG.step_take (BelM.rel z b0) (by rfl) ?y35) ?r35
  case y35 =>
    intro w hbw hd
    clear hd
    go_simp
    first | done | with_reducible rfl | rfl
  (try simp only [Act.put, List.setIfInBounds_toArray, List.set_cons_zero, List.set_cons_succ, List.nil_append, List.cons_append])
  refine FreeG.chain_is (FreeG.step_take (BelM.rel z b0) (by rfl) ?y36) ?r36
  case y36 =>
    intro w hbw hd
    clear hd
    go_simp
    first | done | with_reducible rfl | rfl
  (try simp only [Act.put, List.setIfInBounds_toArray, List.set_cons_zero, List.set_cons_succ, List.nil_append, List.cons_append])
  refine FreeG.chain_is (FreeG.step_gd (BelM.rel z b0) (c := 1 ≤ C) (by show 1 ≤ C ↔ (some (decide (1 ≤ C)) == some true) = true; simp) ?y37) ?r37
  case y37 =>
    intro hc w hbw hd
    clear hd
    (try simp only [if_pos hc])
    go_simp
    first | done | with_reducible rfl | rfl
  (try simp only [Act.put, List.setIfInBounds_toArray, List.set_cons_zero, List.set_cons_succ, List.nil_append, List.cons_append])
  refine FreeG.chain_is (FreeG.step_gd (BelM.rel z b0) (c := 1 ≤ C) (by show 1 ≤ C ↔ (some (decide (1 ≤ C)) == some true) = true; simp) ?y38) ?r38
  case y38 =>
    intro hc w hbw hd
    clear hd
    have kw := k0.below_ (hbw.below (by omega)) hBb
    have q := kw.cell_ 3
    simp at q
    (try simp only [if_pos hc])
    go_simp
    first | done | with_reducible rfl | rfl
  (try simp only [Act.put, List.setIfInBounds_toArray, List.set_cons_zero, List.set_cons_succ, List.nil_append, List.cons_append])
  refine FreeG.chain_is (FreeG.step_gd (BelM.rel z b0) (c := 1 ≤ C) (by show 1 ≤ C ↔ (some (decide (1 ≤ C)) == some true) = true; simp) ?y39) ?r39
  case y39 =>
    intro hc w hbw hd
    clear hd
    (try simp only [if_pos hc])
    go_simp
    first | done | with_reducible rfl | rfl
  (try simp only [Act.put, List.setIfInBounds_toArray, List.set_cons_zero, List.set_cons_succ, List.nil_append, List.cons_append])
  refine FreeG.chain_is (FreeG.step_take (BelM.rel z b0) (by rfl) ?y40) ?r40
  case y40 =>
    intro w hbw hd
    clear hd
    by_cases hc : 1 ≤ C
    · simp only [if_pos hc, hc, decide_true, Bool.true_and]
      go_simp
      first | done | with_reducible rfl | rfl
    · simp only [if_neg hc, hc, decide_false, Bool.false_and]
      go_simp
      first | done | with_reducible rfl | rfl
  (try simp only [Act.put, List.setIfInBounds_toArray, List.set_cons_zero, List.set_cons_succ, List.nil_append, List.cons_append])
  refine FreeG.chain_is ?s41 ?r41
  case s41 =>
    intro w hbw hd K Q' hK
    clear hd
    go_simp
    (go_at_call 75; refine (hu4 _).mono ?_; rintro e w' ⟨rfl, rfl⟩)
    refine hK.out (.int .i64 (z 4)) _ _ ?_ ?_ ?_
    rotate_left
    · exact (BelM.rel z b0).refl _ _
    · rfl
    · (try simp only [Act.put, List.setIfInBounds_toArray, List.set_cons_zero, List.set_cons_succ, List.nil_append, List.cons_append])
  (try simp only [Act.put, List.setIfInBounds_toArray, List.set_cons_zero, List.set_cons_succ, List.nil_append, List.cons_append])
  refine FreeG.chain_fro (step_insert 0 4 (by rfl) _ _ _ rfl (by rfl) rfl rfl rfl rfl rfl (by decide) (by decide) hwf4) (fun v42 => ?r42)
  (try simp only [Act.put, List.setIfInBounds_toArray, List.set_cons_zero, List.set_cons_succ, List.nil_append, List.cons_append])
  refine FreeG.chain_is (FreeG.step_take (BelM.rel z b0) (by rfl) ?y43) ?r43
  case y43 =>
    intro w hbw hd
    clear hd
    go_simp
    first | done | with_reducible rfl | rfl
  (try simp only [Act.put, List.setIfInBounds_toArray, List.set_cons_zero, List.set_cons_succ, List.nil_append, List.cons_append])
  refine FreeG.chain_is (FreeG.step_take (BelM.rel z b0) (by rfl) ?y44) ?r44
  case y44 =>
    intro w hbw hd
    clear hd
    have kw := k0.below_ (hbw.below (by omega)) hBb
    have q := kw.cell_ 4
    simp at q
    go_simp
    first | done | with_reducible rfl | rfl
  (try simp only [Act.put, List.setIfInBounds_toArray, List.set_cons_zero, List.set_cons_succ, List.nil_append, List.cons_append])
  refine FreeG.chain_is (FreeG.step_take (BelM.rel z b0) (by rfl) ?y45) ?r45
  case y45 =>
    intro w hbw hd
    clear hd
    go_simp
    first | done | with_reducible rfl | rfl
  (try simp only [Act.put, List.setIfInBounds_toArray, List.set_cons_zero, List.set_cons_succ, List.nil_append, List.cons_append])
  refine FreeG.chain_is (FreeG.step_take (BelM.rel z b0) (by rfl) ?y46) ?r46
  case y46 =>
    intro w hbw hd
    clear hd
    have kw := k0.below_ (hbw.below (by omega)) hBb
    have q := kw.cell_ 3
    simp at q
    go_simp
    first | done | with_reducible rfl | rfl
  (try simp only [Act.put, List.setIfInBounds_toArray, List.set_cons_zero, List.set_cons_succ, List.nil_append, List.cons_append])
  refine FreeG.chain_is (FreeG.step_take (BelM.rel z b0) (by rfl) ?y47) ?r47
  case y47 =>
    intro w hbw hd
    clear hd
    go_simp
    first | done | with_reducible rfl | rfl
  (try simp only [Act.put, List.setIfInBounds_toArray, List.set_cons_zero, List.set_cons_succ, List.nil_append, List.cons_append])
  refine FreeG.chain_is (FreeG.step_take (BelM.rel z b0) (by rfl) ?y48) ?r48
  case y48 =>
    intro w hbw hd
    clear hd
    go_simp
    first | done | with_reducible rfl | rfl
  (try simp only [Act.put, List.setIfInBounds_toArray, List.set_cons_zero, List.set_cons_succ, List.nil_append, List.cons_append])
  refine FreeG.chain_is (FreeG.step_gd (BelM.rel z b0) (c := C < Q) (by show C < Q ↔ (some (decide (C < Q)) == some true) = true; simp) ?y49) ?r49
  case y49 =>
    intro hc w hbw hd
    clear hd
    (try simp only [if_pos hc])
    go_simp
    first | done | with_reducible rfl | rfl
  (try simp only [Act.put, List.setIfInBounds_toArray, List.set_cons_zero, List.set_cons_succ, List.nil_append, List.cons_append])
  refine FreeG.chain_is (FreeG.step_gd (BelM.rel z b0) (c := C < Q) (by show C < Q ↔ (some (decide (C < Q)) == some true) = true; simp) ?y50) ?r50
  case y50 =>
    intro hc w hbw hd
    clear hd
    have kw := k0.below_ (hbw.below (by omega)) hBb
    have q := kw.cell_ 4
    simp at q
    (try simp only [if_pos hc])
    go_simp
    first | done | with_reducible rfl | rfl
  (try simp only [Act.put, List.setIfInBounds_toArray, List.set_cons_zero, List.set_cons_succ, List.nil_append, List.cons_append])
  refine FreeG.chain_is (FreeG.step_gd (BelM.rel z b0) (c := C < Q) (by show C < Q ↔ (some (decide (C < Q)) == some true) = true; simp) ?y51) ?r51
  case y51 =>
    intro hc w hbw hd
    clear hd
    (try simp only [if_pos hc])
    go_simp
    first | done | with_reducible rfl | rfl
  (try simp only [Act.put, List.setIfInBounds_toArray, List.set_cons_zero, List.set_cons_succ, List.nil_append, List.cons_append])
  refine FreeG.chain_is (FreeG.step_take (BelM.rel z b0) (by rfl) ?y52) ?r52
  case y52 =>
    intro w hbw hd
    clear hd
    by_cases hc : C < Q
    · simp only [if_pos hc, hc, decide_true, Bool.true_and]
      go_simp
      first | done | with_reducible rfl | rfl
    · simp only [if_neg hc, hc, decide_false, Bool.false_and]
      go_simp
      first | done | with_reducible rfl | rfl
  (try simp only [Act.put, List.setIfInBounds_toArray, List.set_cons_zero, List.set_cons_succ, List.nil_append, List.cons_append])
  refine FreeG.chain_is ?s53 ?r53
  case s53 =>
    intro w hbw hd K Q' hK
    clear hd
    go_simp
    (go_at_call 75; refine (hu5 _).mono ?_; rintro e w' ⟨rfl, rfl⟩)
    refine hK.out (.int .i64 (z 5)) _ _ ?_ ?_ ?_
    rotate_left
    · exact (BelM.rel z b0).refl _ _
    · rfl
    · (try simp only [Act.put, List.setIfInBounds_toArray, List.set_cons_zero, List.set_cons_succ, List.nil_append, List.cons_append])
  (try simp only [Act.put, List.setIfInBounds_toArray, List.set_cons_zero, List.set_cons_succ, List.nil_append, List.cons_append])
  refine FreeG.chain_fro (step_insert 0 5 (by rfl) _ _ _ rfl (by rfl) rfl rfl rfl rfl rfl (by decide) (by decide) hwf5) (fun v54 => ?r54)
  (try simp only [Act.put, List.setIfInBounds_toArray, List.set_cons_zero, List.set_cons_succ, List.nil_append, List.cons_append])
  refine FreeG.chain_is (FreeG.step_take (BelM.rel z b0) (by rfl) ?y55) ?r55
  case y55 =>
    intro w hbw hd
    clear hd
    go_simp
    first | done | with_reducible rfl | rfl
  (try simp only [Act.put, List.setIfInBounds_toArray, List.set_cons_zero, List.set_cons_succ, List.nil_append, List.cons_append])
  refine FreeG.chain_is (FreeG.step_take (BelM.rel z b0) (by rfl) ?y56) ?r56
  case y56 =>
    intro w hbw hd
    clear hd
    have kw := k0.below_ (hbw.below (by omega)) hBb
    have q := kw.cell_ 8
    simp at q
    go_simp
    first | done | with_reducible rfl | rfl
  (try simp only [Act.put, List.setIfInBounds_toArray, List.set_cons_zero, List.set_cons_succ, List.nil_append, List.cons_append])
  refine FreeG.chain_is (FreeG.step_take (BelM.rel z b0) (by rfl) ?y57) ?r57
  case y57 =>
    intro w hbw hd
    clear hd
    go_simp
    first | done | with_reducible rfl | rfl
  (try simp only [Act.put, List.setIfInBounds_toArray, List.set_cons_zero, List.set_cons_succ, List.nil_append, List.cons_append])
  refine FreeG.chain_is (FreeG.step_take (BelM.rel z b0) (by rfl) ?y58) ?r58
  case y58 =>
    intro w hbw hd
    clear hd
    go_simp
    first | done | with_reducible rfl | rfl
  (try simp only [Act.put, List.setIfInBounds_toArray, List.set_cons_zero, List.set_cons_succ, List.nil_append, List.cons_append])
  refine FreeG.chain_is (FreeG.step_gd (BelM.rel z b0) (c := 1 ≤ M) (by show 1 ≤ M ↔ (some (decide (1 ≤ M)) == some true) = true; simp) ?y59) ?r59
  case y59 =>
    intro hc w hbw hd
    clear hd
    (try simp only [if_pos hc])
    go_simp
    first | done | with_reducible rfl | rfl
  (try simp only [Act.put, List.setIfInBounds_toArray, List.set_cons_zero, List.set_cons_succ, List.nil_append, List.cons_append])
  refine FreeG.chain_is (FreeG.step_gd (BelM.rel z b0) (c := 1 ≤ M) (by show 1 ≤ M ↔ (some (decide (1 ≤ M)) == some true) = true; simp) ?y60) ?r60
  case y60 =>
    intro hc w hbw hd
    clear hd
    have kw := k0.below_ (hbw.below (by omega)) hBb
    have q := kw.cell_ 8
    simp at q
    (try simp only [if_pos hc])
    go_simp
    first | done | with_reducible rfl | rfl
  (try simp only [Act.put, List.setIfInBounds_toArray, List.set_cons_zero, List.set_cons_succ, List.nil_append, List.cons_append])
  refine FreeG.chain_is (FreeG.step_gd (BelM.rel z b0) (c := 1 ≤ M) (by show 1 ≤ M ↔ (some (decide (1 ≤ M)) == some true) = true; simp) ?y61) ?r61
  case y61 =>
    intro hc w hbw hd
    clear hd
    (try simp only [if_pos hc])
    go_simp
    first | done | with_reducible rfl | rfl
  (try simp only [Act.put, List.setIfInBounds_toArray, List.set_cons_zero, List.set_cons_succ, List.nil_append, List.cons_append])
  refine FreeG.chain_is (FreeG.step_take (BelM.rel z b0) (by rfl) ?y62) ?r62
  case y62 =>
    intro w hbw hd
    clear hd
    by_cases hc : 1 ≤ M
    · simp only [if_pos hc, hc, decide_true, Bool.true_and]
      go_simp
      first | done | with_reducible rfl | rfl
    · simp only [if_neg hc, hc, decide_false, Bool.false_and]
      go_simp
      first | done | with_reducible rfl | rfl
  (try simp only [Act.put, List.setIfInBounds_toArray, List.set_cons_zero, List.set_cons_succ, List.nil_append, List.cons_append])
  refine FreeG.chain_is ?s63 ?r63
  case s63 =>
    intro w hbw hd K Q' hK
    clear hd
    go_simp
    (go_at_call 75; refine (hu6 _).mono ?_; rintro e w' ⟨rfl, rfl⟩)
    refine hK.out (.int .i64 (z 6)) _ _ ?_ ?_ ?_
    rotate_left
    · exact (BelM.rel z b0).refl _ _
    · rfl
    · (try simp only [Act.put, List.setIfInBounds_toArray, List.set_cons_zero, List.set_cons_succ, List.nil_append, List.cons_append])
  (try simp only [Act.put, List.setIfInBounds_toArray, List.set_cons_zero, List.set_cons_succ, List.nil_append, List.cons_append])
  refine FreeG.chain_fro (step_insert 0 6 (by rfl) _ _ _ rfl (by rfl) rfl rfl rfl rfl rfl (by decide) (by decide) hwf6) (fun v64 => ?r64)
  (try simp only [Act.put, List.setIfInBounds_toArray, List.set_cons_zero, List.set_cons_succ, List.nil_append, List.cons_append])
  refine FreeG.chain_is (FreeG.step_take (BelM.rel z b0) (by rfl) ?y65) ?r65
  case y65 =>
    intro w hbw hd
    clear hd
    go_simp
    first | done | with_reducible rfl | rfl
  (try simp only [Act.put, List.setIfInBounds_toArray, List.set_cons_zero, List.set_cons_succ, List.nil_append, List.cons_append])
  refine FreeG.chain_is (FreeG.step_take (BelM.rel z b0) (by rfl) ?y66) ?r66
  case y66 =>
    intro w hbw hd
    clear hd
    have kw := k0.below_ (hbw.below (by omega)) hBb
    have q := kw.cell_ 5
    simp at q
    go_simp
    first | done | with_reducible rfl | rfl
  (try simp only [Act.put, List.setIfInBounds_toArray, List.set_cons_zero, List.set_cons_succ, List.nil_append, List.cons_append])
  refine FreeG.chain_is (FreeG.step_take (BelM.rel z b0) (by rfl) ?y67) ?r67
  case y67 =>
    intro w hbw hd
    clear hd
    go_simp
    first | done | with_reducible rfl | rfl
  (try simp only [Act.put, List.setIfInBounds_toArray, List.set_cons_zero, List.set_cons_succ, List.nil_append, List.cons_append])
  refine FreeG.chain_is (FreeG.step_take (BelM.rel z b0) (by rfl) ?y68) ?r68
  case y68 =>
    intro w hbw hd
    clear hd
    have kw := k0.below_ (hbw.below (by omega)) hBb
    have q := kw.cell_ 3
    simp at q
    go_simp
    first | done | with_reducible rfl | rfl
  (try simp only [Act.put, List.setIfInBounds_toArray, List.set_cons_zero, List.set_cons_succ, List.nil_append, List.cons_append])
  refine FreeG.chain_is (FreeG.step_take (BelM.rel z b0) (by rfl) ?y69) ?r69
  case y69 =>
    intro w hbw hd
    clear hd
    go_simp
    first | done | with_reducible rfl | rfl
  (try simp only [Act.put, List.setIfInBounds_toArray, List.set_cons_zero, List.set_cons_succ, List.nil_append, List.cons_append])
  refine FreeG.chain_is ?s70 ?r70
  case s70 =>
    intro w hbw hd K Q' hK
    clear hd
    go_simp
    (go_at_call 75; refine (hu7 _).mono ?_; rintro e w' ⟨rfl, rfl⟩)
    refine hK.out (.int .i64 (z 7)) _ _ ?_ ?_ ?_
    rotate_left
    · exact (BelM.rel z b0).refl _ _
    · rfl
    · (try simp only [Act.put, List.setIfInBounds_toArray, List.set_cons_zero, List.set_cons_succ, List.nil_append, List.cons_append])
  (try simp only [Act.put, List.setIfInBounds_toArray, List.set_cons_zero, List.set_cons_succ, List.nil_append, List.cons_append])
  refine FreeG.chain_fro (step_insert 0 7 (by rfl) _ _ _ rfl (by rfl) rfl rfl rfl rfl rfl (by decide) (by decide) hwf7) (fun v71 => ?r71)
  (try simp only [Act.put, List.setIfInBounds_toArray, List.set_cons_zero, List.set_cons_succ, List.nil_append, List.cons_append])
  refine FreeG.chain_is (FreeG.step_take (BelM.rel z b0) (by rfl) ?y72) ?r72
  case y72 =>
    intro w hbw hd
    clear hd
    go_simp
    first | done | with_reducible rfl | rfl
  (try simp only [Act.put, List.setIfInBounds_toArray, List.set_cons_zero, List.set_cons_succ, List.nil_append, List.cons_append])
  refine FreeG.chain_is (FreeG.step_take (BelM.rel z b0) (by rfl) ?y73) ?r73
  case y73 =>
    intro w hbw hd
    clear hd
    have kw := k0.below_ (hbw.below (by omega)) hBb
    have q := kw.cell_ 5
    simp at q
    go_simp
    first | done | with_reducible rfl | rfl
  (try simp only [Act.put, List.setIfInBounds_toArray, List.set_cons_zero, List.set_cons_succ, List.nil_append, List.cons_append])
  refine FreeG.chain_is (FreeG.step_take (BelM.rel z b0) (by rfl) ?y74) ?r74
  case y74 =>
    intro w hbw hd
    clear hd
    go_simp
    first | done | with_reducible rfl | rfl
  (try simp only [Act.put, List.setIfInBounds_toArray, List.set_cons_zero, List.set_cons_succ, List.nil_append, List.cons_append])
  refine FreeG.chain_is (FreeG.step_take (BelM.rel z b0) (by rfl) ?y75) ?r75
  case y75 =>
    intro w hbw hd
    clear hd
    have kw := k0.below_ (hbw.below (by omega)) hBb
    have q := kw.cell_ 6
    simp at q
    go_simp
    first | done | with_reducible rfl | rfl
  (try simp only [Act.put, List.setIfInBounds_toArray, List.set_cons_zero, List.set_cons_succ, List.nil_append, List.cons_append])
  refine FreeG.chain_is (FreeG.step_take (BelM.rel z b0) (by rfl) ?y76) ?r76
  case y76 =>
    intro w hbw hd
    clear hd
    go_simp
    first | done | with_reducible rfl | rfl
  (try simp only [Act.put, List.setIfInBounds_toArray, List.set_cons_zero, List.set_cons_succ, List.nil_append, List.cons_append])
  refine FreeG.chain_is (FreeG.step_take (BelM.rel z b0) (by rfl) ?y77) ?r77
  case y77 =>
    intro w hbw hd
    clear hd
    have kw := k0.below_ (hbw.below (by omega)) hBb
    have q := kw.cell_ 7
    simp at q
    go_simp
    first | done | with_reducible rfl | rfl
  (try simp only [Act.put, List.setIfInBounds_toArray, List.set_cons_zero, List.set_cons_succ, List.nil_append, List.cons_append])
  refine FreeG.chain_is (FreeG.step_take (BelM.rel z b0) (by rfl) ?y78) ?r78
  case y78 =>
    intro w hbw hd
    clear hd
    go_simp
    first | done | with_reducible rfl | rfl
  (try simp only [Act.put, List.setIfInBounds_toArray, List.set_cons_zero, List.set_cons_succ, List.nil_append, List.cons_append])
  refine FreeG.chain_is ?s79 ?r79
  case s79 =>
    intro w hbw hd K Q' hK
    clear hd
    go_simp
    (go_at_call 76; refine (ascend_any _ _ _ _).mono ?_; rintro e w' ⟨rfl, hbe⟩; rw [Bool.decide_and])
    refine hK.out (.bool (decide (mn < lo) && decide (lo < hi))) _ _ ?_ ?_ ?_
    rotate_left
    · exact BelM.of_below hbe
    · rfl
    · (try simp only [Act.put, List.setIfInBounds_toArray, List.set_cons_zero, List.set_cons_succ, List.nil_append, List.cons_append])
  (try simp only [Act.put, List.setIfInBounds_toArray, List.set_cons_zero, List.set_cons_succ, List.nil_append, List.cons_append])
  refine FreeG.chain_is ?s80 ?r80
  case s80 =>
    intro w hbw hd K Q' hK
    clear hd
    go_simp
    (go_at_call 75; refine (hu8 _).mono ?_; rintro e w' ⟨rfl, rfl⟩)
    refine hK.out (.int .i64 (z 8)) _ _ ?_ ?_ ?_
    rotate_left
    · exact (BelM.rel z b0).refl _ _
    · rfl
    · (try simp only [Act.put, List.setIfInBounds_toArray, List.set_cons_zero, List.set_cons_succ, List.nil_append, List.cons_append])
  (try simp only [Act.put, List.setIfInBounds_toArray, List.set_cons_zero, List.set_cons_succ, List.nil_append, List.cons_append])
  refine FreeG.chain_fro (step_insert 0 8 (by rfl) _ _ _ rfl (by rfl) rfl rfl rfl rfl rfl (by decide) (by decide) hwf8) (fun v81 => ?r81)
  (try simp only [Act.put, List.setIfInBounds_toArray, List.set_cons_zero, List.set_cons_succ, List.nil_append, List.cons_append])
  refine FreeG.chain_is (FreeG.step_take (BelM.rel z b0) (by rfl) ?y82) ?r82
  case y82 =>
    intro w hbw hd
    clear hd
    go_simp
    first | done | with_reducible rfl | rfl
  (try simp only [Act.put, List.setIfInBounds_toArray, List.set_cons_zero, List.set_cons_succ, List.nil_append, List.cons_append])
  refine FreeG.chain_is (FreeG.step_take (BelM.rel z b0) (by rfl) ?y83) ?r83
  case y83 =>
    intro w hbw hd
    clear hd
    have kw := k0.below_ (hbw.below (by omega)) hBb
    have q := kw.cell_ 7
    simp at q
    go_simp
    first | done | with_reducible rfl | rfl
  (try simp only [Act.put, List.setIfInBounds_toArray, List.set_cons_zero, List.set_cons_succ, List.nil_append, List.cons_append])
  refine FreeG.chain_is (FreeG.step_take (BelM.rel z b0) (by rfl) ?y84) ?r84
  case y84 =>
    intro w hbw hd
    clear hd
    go_simp
    first | done | with_reducible rfl | rfl
  (try simp only [Act.put, List.setIfInBounds_toArray, List.set_cons_zero, List.set_cons_succ, List.nil_append, List.cons_append])
  refine FreeG.chain_is (FreeG.step_take (BelM.rel z b0) (by rfl) ?y85) ?r85
  case y85 =>
    intro w hbw hd
    clear hd
    have kw := k0.below_ (hbw.below (by omega)) hBb
    have q := kw.cell_ 0
    simp at q
    go_simp
    first | done | with_reducible rfl | rfl
  (try simp only [Act.put, List.setIfInBounds_toArray, List.set_cons_zero, List.set_cons_succ, List.nil_append, List.cons_append])
  refine FreeG.chain_is (FreeG.step_take (BelM.rel z b0) (by rfl) ?y86) ?r86
  case y86 =>
    intro w hbw hd
    clear hd
    go_simp
    exact (IntWalk.i64_left _).trans HX1.out.symm
  (try simp only [Act.put, List.setIfInBounds_toArray, List.set_cons_zero, List.set_cons_succ, List.nil_append, List.cons_append])
  refine FreeG.chain_is (FreeG.step_take (BelM.rel z b0) (by rfl) ?y87) ?r87
  case y87 =>
    intro w hbw hd
    clear hd
    go_simp
    first | done | with_reducible rfl | rfl
  (try simp only [Act.put, List.setIfInBounds_toArray, List.set_cons_zero, List.set_cons_succ, List.nil_append, List.cons_append])
  refine FreeG.chain_is (FreeG.step_take (BelM.rel z b0) (by rfl) ?y88) ?r88
  case y88 =>
    intro w hbw hd
    clear hd
    go_simp
    exact (IntWalk.i64_left _).trans HX.out.symm
  (try simp only [Act.put, List.setIfInBounds_toArray, List.set_cons_zero, List.set_cons_succ, List.nil_append, List.cons_append])
  refine FreeG.chain_is (FreeG.step_take (BelM.rel z b0) (by rfl) ?y89) ?r89
  case y89 =>
    intro w hbw hd
    clear hd
    go_simp
    first | done | with_reducible rfl | rfl
  (try simp only [Act.put, List.setIfInBounds_toArray, List.set_cons_zero, List.set_cons_succ, List.nil_append, List.cons_append])
  refine FreeG.chain_is ?s90 ?r90
  case s90 =>
    intro w hbw hd K Q' hK
    clear hd
    go_simp
    (go_at_call 75; refine (hu9 _).mono ?_; rintro e w' ⟨rfl, rfl⟩)
    refine hK.out (.int .i64 (z 9)) _ _ ?_ ?_ ?_
    rotate_left
    · exact (BelM.rel z b0).refl _ _
    · rfl
    · (try simp only [Act.put, List.setIfInBounds_toArray, List.set_cons_zero, List.set_cons_succ, List.nil_append, List.cons_append])
  (try simp only [Act.put, List.setIfInBounds_toArray, List.set_cons_zero, List.set_cons_succ, List.nil_append, List.cons_append])
  refine FreeG.chain_fro (step_insert 0 9 (by rfl) _ _ _ rfl (by rfl) rfl rfl rfl rfl rfl (by decide) (by decide) hwf9) (fun v91 => ?r91)
  (try simp only [Act.put, List.setIfInBounds_toArray, List.set_cons_zero, List.set_cons_succ, List.nil_append, List.cons_append])
  refine FreeG.chain_fro ?s92 (fun v92 => ?r92)
  case s92 =>
    refine FreeG.step_takeF (BelM.rel z b0) (by rfl) ?_
    intro w hbw hd
    clear hd
    go_simp
    first | done | rfl | exact ⟨_, rfl, rfl⟩
  (try simp only [Act.put, List.setIfInBounds_toArray, List.set_cons_zero, List.set_cons_succ, List.nil_append, List.cons_append])
  refine FreeG.chain_fro ?s93 (fun v93 => ?r93)
  case s93 =>
    refine FreeG.step_takeF (BelM.rel z b0) (by rfl) ?_
    intro w hbw hd
    have e : v92 = v0 := hd 92 _ _ (by rfl) rfl rfl
    clear hd
    subst e
    go_simp
    first | done | rfl | exact ⟨_, rfl, rfl⟩
  (try simp only [Act.put, List.setIfInBounds_toArray, List.set_cons_zero, List.set_cons_succ, List.nil_append, List.cons_append])
  refine FreeG.chain_end (fun wz hbz hd => ?_)
  obtain ⟨b, e0, hbb, hG⟩ : MkF z b0 v0 wz := hd 0 _ _ rfl rfl
  have e1 : v93 = v0 := hd 93 _ _ rfl rfl
  subst e1
  have h1 : EnF 1 z v93 v10 wz := hd 10 _ _ rfl rfl
  have h2 : EnF 2 z v93 v22 wz := hd 22 _ _ rfl rfl
  have h3 : EnF 3 z v93 v32 wz := hd 32 _ _ rfl rfl
  have h4 : EnF 4 z v93 v42 wz := hd 42 _ _ rfl rfl
  have h5 : EnF 5 z v93 v54 wz := hd 54 _ _ rfl rfl
  have h6 : EnF 6 z v93 v64 wz := hd 64 _ _ rfl rfl
  have h7 : EnF 7 z v93 v71 wz := hd 71 _ _ rfl rfl
  have h8 : EnF 8 z v93 v81 wz := hd 81 _ _ rfl rfl
  have h9 : EnF 9 z v93 v91 wz := hd 91 _ _ rfl rfl
  clear hd
  subst e0
  have hMap := mapZ_of hG (fun k hk1 hk2 => by
      obtain h | h | h | h | h | h | h | h | h : k = 1 ∨ k = 2 ∨ k = 3 ∨ k = 4 ∨ k = 5 ∨ k = 6 ∨ k = 7 ∨ k = 8 ∨ k = 9 := by omega
      all_goals subst h
      · exact (h1 _ rfl).2
      · exact (h2 _ rfl).2
      · exact (h3 _ rfl).2
      · exact (h4 _ rfl).2
      · exact (h5 _ rfl).2
      · exact (h6 _ rfl).2
      · exact (h7 _ rfl).2
      · exact (h8 _ rfl).2
      · exact (h9 _ rfl).2)
  have hBz : Below b0 V wz := (hb0.below (by omega)).trans (hbz.below (by omega))
  clear h1 h2 h3 h4 h5 h6 h7 h8 h9 hG hbz hb0
  generalize (if 16 ≤ F then (.pointer (some ⟨B, 0, none⟩) : Value) else undef) = g0
  generalize (if 16 ≤ F then (.int .i64 F : Value) else undef) = g1
  generalize (if 16 ≤ F then (.bool (decide (F ≤ 256)) : Value) else undef) = g2
  generalize (if 1 ≤ L then (.pointer (some ⟨B, 1, none⟩) : Value) else undef) = g3
  generalize (if 1 ≤ L then (.int .i64 L : Value) else undef) = g4
  generalize (if 1 ≤ L then (.pointer (some ⟨B, 0, none⟩) : Value) else undef) = g5
  generalize (if 1 ≤ L then (.int .i64 F : Value) else undef) = g6
  generalize (if 1 ≤ L then (.bool (decide (L ≤ F)) : Value) else undef) = g7
  generalize (if 1 ≤ S then (.pointer (some ⟨B, 2, none⟩) : Value) else undef) = g8
  generalize (if 1 ≤ S then (.int .i64 S : Value) else undef) = g9
  generalize (if 1 ≤ S then (.bool (decide (S ≤ 256)) : Value) else undef) = g10
  generalize (if 1 ≤ C then (.pointer (some ⟨B, 3, none⟩) : Value) else undef) = g11
  generalize (if 1 ≤ C then (.int .i64 C : Value) else undef) = g12
  generalize (if 1 ≤ C then (.bool (decide (C ≤ 16)) : Value) else undef) = g13
  generalize (if C < Q then (.pointer (some ⟨B, 4, none⟩) : Value) else undef) = g14
  generalize (if C < Q then (.int .i64 Q : Value) else undef) = g15
  generalize (if C < Q then (.bool (decide (Q ≤ 32)) : Value) else undef) = g16
  generalize (if 1 ≤ M then (.pointer (some ⟨B, 8, none⟩) : Value) else undef) = g17
  generalize (if 1 ≤ M then (.int .i64 M : Value) else undef) = g18
  generalize (if 1 ≤ M then (.bool (decide (M ≤ 64)) : Value) else undef) = g19
  -- behind the literal
  obtain ⟨D, hD, hKD⟩ := MapZ.keys hMap (by simp)
  obtain ⟨xs, hxs⟩ : ∃ xs : List Int, xs = [1, 2, 3, 4, 5, 6, 7, 8, 9] := ⟨_, rfl⟩
  have hKX : keysS D = xs := by rw [hKD, hxs]; rfl
  have HX9 := Lib.hid hxs
  clear hxs hKD
  have hMb := hMap.lt
  have hVz := hBz.size
  have HM := Lib.hid hMap
  clear hMap
  go_wp2_with (first
    | (go_at_call 77; refine (ke_keys _ _).mono ?_; rintro e w' ⟨rfl, rfl⟩)
    | (go_at_call 66; refine (ke_sorted wz.heap.size b 9 D _ (by simp) (by simp) (hD.alloc _) (by omega)).mono ?_; rw [hKX]; rintro e w1 ⟨A, c, rfl, hOw, hb1⟩))
  have hS1 : Sl w1 (.int .i64) A xs := by
    obtain ⟨A', c', e', h'⟩ := Own.sl hOw
    injection e' with e1 e2 e3
    rw [e1]
    exact h'
  have hbz1 : Below wz.heap.size wz w1 := (Below.alloc (Below.refl _ _) (Nat.le_refl _) _).trans (hb1.mono (by simp))
  have hMap1 : MapZ w1 b 9 (nineM z) := HM.out.below_ hbz1 hMb
  have kB1 : Blk w1 B _ _ := kB.below_ (hBz.trans (hbz1.mono (by omega))) hBb
  have hBb1 : B + 1 < b0 := by have := kR.lt; omega
  have kR1 : Blk w1 (B + 1) _ _ := kR.below_ (hBz.trans (hbz1.mono (by omega))) hBb1
  have hl1 : xs.length ≤ 1000 := by rw [HX9.out]; decide
  have hw1 := hbz1.size
  clear hOw hb1 hD hKX kB kR HM
  go_loopw [101] (fun i wr => ∃ k : Nat, k ≤ xs.length ∧ i = .int .i64 k ∧ Hid (∀ y ∈ (nine z).take k, y = 0) ∧ Below w1.heap.size w1 wr) (fun i _ => xs.length - (intOf i).toNat)
  case atStart => exact ⟨0, by omega, rfl, by show ∀ y ∈ _, _; simp, Below.refl _ _⟩
  case round =>
    obtain ⟨k, hk, rfl, HR, hbw⟩ := hrel
    have kRw := kR1.below_ hbw kR1.lt
    have kBw := kB1.below_ hbw kB1.lt
    have hww := hbw.size
    have hmu : MapZ wr b 9 (nineM z) := hMap1.below_ hbw hMap1.lt
    have q5 : wr.cell? ⟨B, 5, none⟩ = some (.int .i64 mn) := by simpa using kBw.cell_ 5
    have q6 : wr.cell? ⟨B, 6, none⟩ = some (.int .i64 lo) := by simpa using kBw.cell_ 6
    have q7 : wr.cell? ⟨B, 7, none⟩ = some (.int .i64 hi) := by simpa using kBw.cell_ 7
    have r0 : wr.cell? ⟨B + 1, 0, none⟩ = some (.int .i64 0) := by simpa using kRw.cell_ 0
    have r1 : wr.cell? ⟨B + 1, 1, none⟩ = some (.int .i64 0) := by simpa using kRw.cell_ 1
    have r2 : wr.cell? ⟨B + 1, 2, none⟩ = some (.int .i64 0) := by simpa using kRw.cell_ 2
    have s0 : wr.frozen? ⟨B + 1, 0, none⟩ = false := kRw.frozen_ 0
    have s1 : wr.frozen? ⟨B + 1, 1, none⟩ = false := kRw.frozen_ 1
    have s2 : wr.frozen? ⟨B + 1, 2, none⟩ = false := kRw.frozen_ 2
    by_cases hlt : k < xs.length
    · obtain ⟨bb, off, x, rfl, hbl, hx, hc⟩ := hS1.at_ hlt
      have hcw := cell_keep hbw hc hbl
      obtain ⟨zk, hzk, hxm, hx1, hx9⟩ := nine_at z HX9.out hx
      have hMw := hMap1.below_ hbw hMap1.lt
      have hlook := hMw.look hxm (keyOf_int_mk Tryz.underlying3 (wf_i64 (by omega) (by omega)))
      have i1 : (k : Int) < xs.length := by omega
      by_cases e : zk = 0
      · subst e
        have HN : Hid (∀ y ∈ (nine z).take (k + 1), y = 0) := take_zero HR.out hzk
        clear hzk hxm HR
        go_wp2
        go_roundw
        case rel => exact ⟨k + 1, by omega, by go_num, HN.out, (by repeat' (first | with_reducible exact Below.refl _ _ | with_reducible assumption | with_reducible apply Below.drew | with_reducible apply below_drewN | with_reducible apply Below.alloc | with_reducible apply Below.setCell | (with_reducible refine Below.trans ?_ (Below.mono (by assumption) ?_)) | (simp; done) | (simp; omega) | omega | with_reducible apply le_size_alloc | with_reducible apply le_size_drewN | with_reducible apply le_size_drew | with_reducible apply le_size_setCell | refine Nat.le_trans ?_ (Below.size (by assumption))))⟩
        case measure => simp [intOf]; omega
      · have HF : Hid (fstNZ (nine z) = zk) := fstNZ_at HR.out hzk e
        clear hzk HR
        have m2 : MapZ (((wr.setCell ⟨B + 1, 0, none⟩ (.int .i64 0)).setCell ⟨B + 1, 1, none⟩ (.int .i64 0)).setCell ⟨B + 1, 2, none⟩ (.int .i64 0)) b 9 (nineM z) := MapZ.far (MapZ.far (MapZ.far hmu (by show b ≠ B + 1; omega)) (by show b ≠ B + 1; omega)) (by show b ≠ B + 1; omega)
        have m3 : MapZ (((wr.setCell ⟨B + 1, 0, none⟩ (.int .i64 0)).setCell ⟨B + 1, 1, none⟩ (.int .i64 0)).setCell ⟨B + 1, 2, none⟩ (.int .i64 0)).drew b 9 (nineM z) := m2
        have m4 : MapZ wr.drew b 9 (nineM z) := hmu
        have hlook2 := m3.look hxm (keyOf_int_mk Tryz.underlying3 (wf_i64 (by omega) (by omega)))
        have hlook3 := m4.look hxm (keyOf_int_mk Tryz.underlying3 (wf_i64 (by omega) (by omega)))
        have k' : Blk (((wr.setCell ⟨B + 1, 0, none⟩ (.int .i64 0)).setCell ⟨B + 1, 1, none⟩ (.int .i64 0)).setCell ⟨B + 1, 2, none⟩ (.int .i64 0)) _ _ _ := ((kRw.set_ 0 (.int .i64 0)).set_ 1 (.int .i64 0)).set_ 2 (.int .i64 0)
        have t0 := k'.cell_ 0; have t1 := k'.cell_ 1; have t2 := k'.cell_ 2
        simp at t0 t1 t2
        clear hxm m2 m3 m4 k'
        go_wp2
        go_region
        all_goals
          go_wp2
          refine bodyPost_ret (v := fitV mn lo hi zk) (by simp [results, Tryz.results53, go_sem, fitV, marksV, t0, t1, t2, e]) rfl ?_
          exact ⟨by rw [HF.out], (by repeat' (first | with_reducible exact Below.refl _ _ | with_reducible assumption | with_reducible apply Below.drew | with_reducible apply below_drewN | with_reducible apply Below.alloc | with_reducible apply Below.setCell | (with_reducible refine Below.trans ?_ (Below.mono (by assumption) ?_)) | (simp; done) | (simp; omega) | omega | with_reducible apply le_size_alloc | with_reducible apply le_size_drewN | with_reducible apply le_size_drew | with_reducible apply le_size_setCell | refine Nat.le_trans ?_ (Below.size (by assumption))))⟩
    · have HF : Hid (fstNZ (nine z) = 0) := fstNZ_all (nine_all HX9.out (by omega) HR.out)
      clear HR
      have k' : Blk (((wr.setCell ⟨B + 1, 0, none⟩ (.int .i64 mn)).setCell ⟨B + 1, 1, none⟩ (.int .i64 lo)).setCell ⟨B + 1, 2, none⟩ (.int .i64 hi)) _ _ _ := ((kRw.set_ 0 (.int .i64 mn)).set_ 1 (.int .i64 lo)).set_ 2 (.int .i64 hi)
      have t0 := k'.cell_ 0; have t1 := k'.cell_ 1; have t2 := k'.cell_ 2
      simp at t0 t1 t2
      clear k'
      go_wp2
      refine bodyPost_ret (v := fitV mn lo hi 0) (by simp [results, Tryz.results53, go_sem, fitV, marksV, t0, t1, t2]) rfl ?_
      exact ⟨by rw [HF.out], (by repeat' (first | with_reducible exact Below.refl _ _ | with_reducible assumption | with_reducible apply Below.drew | with_reducible apply below_drewN | with_reducible apply Below.alloc | with_reducible apply Below.setCell | (with_reducible refine Below.trans ?_ (Below.mono (by assumption) ?_)) | (simp; done) | (simp; omega) | omega | with_reducible apply le_size_alloc | with_reducible apply le_size_drewN | with_reducible apply le_size_drew | with_reducible apply le_size_setCell | refine Nat.le_trans ?_ (Below.size (by assumption))))⟩
end Go.Proofs.YtmbpjafiinfkkaaGreatDoor
