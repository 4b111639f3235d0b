/- LruKnown: the chapter's examples have the results given there. Written by gen_known.py. -/
import Derived.Test.YtjilfijpepbfeaaLruV
import Derived.Test.YtjilfijpepbfeaaLLUndo
import Derived.Test.YtjilfijpepbfeaaFree
namespace Go.Proofs.Ytjilfijpepbfeaa
open Go.RowKit Go.Maps
open Go.ChangeShapes Go.WideShapes Go.ChangeAt Go.Joins

theorem inMem_lit {w : World} {A1 A2 A3 : Option Addr} {xs ys : List Int} {rs : List Bool} (h1 : Sl w (.int .i64) A1 xs) (h2 : Sl w (.int .i64) A2 ys) (h3 : Sl w .bool A3 rs) (l1 : xs.length ≤ 1000) (l2 : ys.length ≤ 1000) (l3 : rs.length ≤ 1000)
    (b1 : ∀ x ∈ xs, 0 ≤ x ∧ x ≤ 1000) (b2 : ∀ x ∈ ys, 0 ≤ x ∧ x ≤ 1000) : InMem w A1 A2 A3 xs ys rs :=
  ⟨h1, h2, h3, by omega, by omega, by omega, fun x hx => wf_small (b1 x hx).1 (by have := (b1 x hx).2; omega), fun x hx => wf_small (b2 x hx).1 (by have := (b2 x hx).2; omega)⟩

theorem is_lit (Aa Ai Ar Ba Bi Br : Option Addr) (ca ci cr da di dr n1 n2 : Nat) (xs ys : List Int) (rs : List Bool) (w : World) (hx : xs.length = n1) (hy : ys.length = n2) (hr : rs.length = 8) (h : InMem w Aa Ai Ar xs ys rs) (h' : InMem w Ba Bi Br xs ys rs) (l1 : n1 ≤ 1000) (l2 : n2 ≤ 1000) :
    Calls Try.prog 28 #[.agg #[.slice Aa n1 ca, .slice Ai n2 ci, .slice Ar 8 cr], .agg #[.slice Ba n1 da, .slice Bi n2 di, .slice Br 8 dr], .int .i64 0] w fun e w' => e = .returned (.bool true) ∧ Below w.heap.size w w' := by
  have := is_yes Aa Ai Ar Ba Bi Br ca ci cr da di dr xs ys rs w h h' (by omega) (by omega) (by omega)
  rw [hx, hy, hr] at this
  exact this
theorem same_lit (A B : Option Addr) (c d n : Nat) (xs : List Int) (w : World) (hx : xs.length = n) (ha : Sl w (.int .i64) A xs) (hb : Sl w (.int .i64) B xs) (l1 : n ≤ 1000) :
    Calls Try.prog 30 #[.slice A n c, .slice B n d] w fun e w' => e = .returned (.bool true) ∧ Below w.heap.size w w' := by
  have := SameInts_any A B c d xs xs w ha hb (by omega) (by omega)
  rw [hx, decide_eq_true rfl] at this
  exact this

/-- Lists that the region has made. -/
def LisS (n1 n2 : Nat) (xs ys : List Int) (rs : List Bool) (v : Value) (w : World) : Prop := ∃ A1 A2 g, v = .agg #[.slice A1 n1 n1, .slice A2 n2 n2, .slice (some ⟨g, 0, none⟩) 8 8] ∧ InMem w A1 A2 (some ⟨g, 0, none⟩) xs ys rs
theorem LisS.lasts (n1 n2 : Nat) (xs ys : List Int) (rs : List Bool) : (Fct.has (LisS n1 n2 xs ys rs)).lasts := fun _ _ _ ⟨A1, A2, g, e, h⟩ hb => ⟨A1, A2, g, e, h.ext hb⟩

set_option maxRecDepth 100000 in
set_option maxHeartbeats 32000000 in
theorem lruKnown_walk (w : World) : Calls Try.prog 9 #[] w fun e w' => e = .returned (.bool true) ∧ Below w.heap.size w w' := by
  go_enter Try.func9, Try.ntmps9
  have HB0 : Hid (Below w.heap.size w w) := Below.refl _ _
  go_wp2_with fail
  refine (lists_one _ _ _ _ _ _ _ _ ?_).mono ?_
  · exact (by repeat' (first | with_reducible assumption | (with_reducible refine Blk.new_ ?_ ?_ <;> first | (simp; done) | rfl) | with_reducible apply Blk.drew_ | with_reducible apply Blk.drewN_ | with_reducible apply Blk.alloc_ | with_reducible refine Blk.far_ ?_ ?_ _ | (with_reducible refine Blk.below_ ?_ (by assumption) ?_) | (simp; done) | (simp; omega) | omega | with_reducible apply le_size_alloc | with_reducible apply lt_size_alloc | with_reducible apply le_size_drewN | with_reducible apply le_size_drew | with_reducible apply le_size_setCell | refine Nat.lt_of_lt_of_le ?_ (Below.size (by assumption)) | refine Nat.le_trans ?_ (Below.size (by assumption))))
  rintro e w1 ⟨g1, rfl, s1, h1⟩
  have S1 : Hid (Sl w1 .bool (some ⟨g1, 0, none⟩) [false, true, false, false, false, false, false, false]) := s1
  clear s1
  go_wp2_with fail
  have Ha : Hid (demS [3, 2, 1] [] [false, true, false, false, false, false, false, false] = ⟨[3, 2], [1], [false, false, false, false, false, false, false, false], 0⟩) := by show _ = _; kernel_rfl
  have Fa : Hid (demF [3, 2, 1] [] [false, true, false, false, false, false, false, false] = 1) := by show _ = _; kernel_rfl
  refine (Demote_S _ none _ 3 0 8 [3, 2, 1] [] [false, true, false, false, false, false, false, false] _ (inMem_lit (Sl.of_lit (t := 3) (by repeat' (first | with_reducible assumption | (with_reducible refine Blk.new_ ?_ ?_ <;> first | (simp; done) | rfl) | with_reducible apply Blk.drew_ | with_reducible apply Blk.drewN_ | with_reducible apply Blk.alloc_ | with_reducible refine Blk.far_ ?_ ?_ _ | (with_reducible refine Blk.below_ ?_ (by assumption) ?_) | (simp; done) | (simp; omega) | omega | with_reducible apply le_size_alloc | with_reducible apply lt_size_alloc | with_reducible apply le_size_drewN | with_reducible apply le_size_drew | with_reducible apply le_size_setCell | refine Nat.lt_of_lt_of_le ?_ (Below.size (by assumption)) | refine Nat.le_trans ?_ (Below.size (by assumption))))) Sl.nil S1.out (by simp) (by simp) (by simp) (by decide) (by simp))).mono ?_
  unfold LPost3
  rw [Ha.out, Fa.out]
  rintro e x1 ⟨A1, a1, A2, a2, A3, a3, rfl, ma, ta, hx1⟩
  have bw2 : Below w.heap.size w x1 := (by repeat' (first | with_reducible exact Below.refl _ _ | with_reducible assumption | with_reducible apply Below.drew | with_reducible apply below_drewN | with_reducible apply Below.alloc | with_reducible apply Below.setCell | (with_reducible refine Below.trans ?_ (Below.mono (by assumption) ?_)) | (simp; done) | (simp; omega) | omega | with_reducible apply le_size_alloc | with_reducible apply le_size_drewN | with_reducible apply le_size_drew | with_reducible apply le_size_setCell | with_reducible refine Nat.le_trans ?_ (Below.size (by assumption))))
  have HB_2 : Hid (Below w.heap.size w x1) := HB0.out.trans (bw2.mono HB0.out.size)
  clear bw2 hx1 HB0
  dsimp only at ma ⊢
  simp only [List.length_cons, List.length_nil, Nat.reduceAdd]
  have Ma := Lib.hid ma
  clear ma ta Ha Fa
  go_wp2_with fail
  obtain ⟨V3, hV3⟩ : ∃ V, x1.alloc (.cells #[.slice A1 2 a1, .slice A2 1 a2, .slice A3 8 a3] 25) = V := ⟨_, rfl⟩
  have hbV3 : Below x1.heap.size x1 V3 := by rw [← hV3]; exact (by repeat' (first | with_reducible exact Below.refl _ _ | with_reducible assumption | with_reducible apply Below.drew | with_reducible apply below_drewN | with_reducible apply Below.alloc | with_reducible apply Below.setCell | (with_reducible refine Below.trans ?_ (Below.mono (by assumption) ?_)) | (simp; done) | (simp; omega) | omega | with_reducible apply le_size_alloc | with_reducible apply le_size_drewN | with_reducible apply le_size_drew | with_reducible apply le_size_setCell | with_reducible refine Nat.le_trans ?_ (Below.size (by assumption))))
  have hkV3 : Hid (Blk V3 x1.heap.size 25 #[.slice A1 2 a1, .slice A2 1 a2, .slice A3 8 a3]) := by show Blk _ _ _ _; rw [← hV3]; exact Blk.new_ rfl rfl
  rw [hV3]
  clear hV3
  have bw4 : Below x1.heap.size x1 V3 := (by repeat' (first | with_reducible exact Below.refl _ _ | with_reducible assumption | with_reducible apply Below.drew | with_reducible apply below_drewN | with_reducible apply Below.alloc | with_reducible apply Below.setCell | (with_reducible refine Below.trans ?_ (Below.mono (by assumption) ?_)) | (simp; done) | (simp; omega) | omega | with_reducible apply le_size_alloc | with_reducible apply le_size_drewN | with_reducible apply le_size_drew | with_reducible apply le_size_setCell | with_reducible refine Nat.le_trans ?_ (Below.size (by assumption))))
  have HB_4 : Hid (Below w.heap.size w V3) := HB_2.out.trans (bw4.mono HB_2.out.size)
  have Ma_4 : Hid (InMem V3 A1 A2 A3 [3, 2] [1] [false, false, false, false, false, false, false, false]) := Ma.out.ext bw4
  clear bw4 hbV3 HB_2 Ma
  have ka0 : V3.cell? ⟨x1.heap.size, 0, none⟩ = some (.slice A1 2 a1) := (hkV3.out.cell_ 0).trans (by simp)
  have ka1 : V3.cell? ⟨x1.heap.size, 1, none⟩ = some (.slice A2 1 a2) := (hkV3.out.cell_ 1).trans (by simp)
  have ka2 : V3.cell? ⟨x1.heap.size, 2, none⟩ = some (.slice A3 8 a3) := (hkV3.out.cell_ 2).trans (by simp)
  go_wp2_with fail
  have Hb : Hid (demS [3, 2] [1] [false, false, false, false, false, false, false, false] = ⟨[3], [2, 1], [false, false, false, false, false, false, false, false], 0⟩) := by show _ = _; kernel_rfl
  have Fb : Hid (demF [3, 2] [1] [false, false, false, false, false, false, false, false] = 2) := by show _ = _; kernel_rfl
  refine (Demote_S _ _ _ _ _ _ [3, 2] [1] [false, false, false, false, false, false, false, false] _ Ma_4.out).mono ?_
  unfold LPost3
  rw [Hb.out, Fb.out]
  rintro e x5 ⟨B1, b1, B2, b2, B3, b3, rfl, mb, tb, hx5⟩
  clear ka0 ka1 ka2
  have bw6 : Below V3.heap.size V3 x5 := (by repeat' (first | with_reducible exact Below.refl _ _ | with_reducible assumption | with_reducible apply Below.drew | with_reducible apply below_drewN | with_reducible apply Below.alloc | with_reducible apply Below.setCell | (with_reducible refine Below.trans ?_ (Below.mono (by assumption) ?_)) | (simp; done) | (simp; omega) | omega | with_reducible apply le_size_alloc | with_reducible apply le_size_drewN | with_reducible apply le_size_drew | with_reducible apply le_size_setCell | with_reducible refine Nat.le_trans ?_ (Below.size (by assumption))))
  have HB_6 : Hid (Below w.heap.size w x5) := HB_4.out.trans (bw6.mono HB_4.out.size)
  have Ma_6 : Hid (InMem x5 A1 A2 A3 [3, 2] [1] [false, false, false, false, false, false, false, false]) := Ma_4.out.ext bw6
  have a_6 : Hid (Blk x5 x1.heap.size 25 #[.slice A1 2 a1, .slice A2 1 a2, .slice A3 8 a3]) := hkV3.out.below_ bw6 hkV3.out.lt
  clear bw6 hx5 HB_4 Ma_4 hkV3
  dsimp only at mb ⊢
  simp only [List.length_cons, List.length_nil, Nat.reduceAdd]
  have Mb := Lib.hid mb
  clear mb tb Hb Fb
  go_wp2_with fail
  obtain ⟨V7, hV7⟩ : ∃ V, x5.alloc (.cells #[.slice B1 1 b1, .slice B2 2 b2, .slice B3 8 b3] 25) = V := ⟨_, rfl⟩
  have hbV7 : Below x5.heap.size x5 V7 := by rw [← hV7]; exact (by repeat' (first | with_reducible exact Below.refl _ _ | with_reducible assumption | with_reducible apply Below.drew | with_reducible apply below_drewN | with_reducible apply Below.alloc | with_reducible apply Below.setCell | (with_reducible refine Below.trans ?_ (Below.mono (by assumption) ?_)) | (simp; done) | (simp; omega) | omega | with_reducible apply le_size_alloc | with_reducible apply le_size_drewN | with_reducible apply le_size_drew | with_reducible apply le_size_setCell | with_reducible refine Nat.le_trans ?_ (Below.size (by assumption))))
  have hkV7 : Hid (Blk V7 x5.heap.size 25 #[.slice B1 1 b1, .slice B2 2 b2, .slice B3 8 b3]) := by show Blk _ _ _ _; rw [← hV7]; exact Blk.new_ rfl rfl
  rw [hV7]
  clear hV7
  have bw8 : Below x5.heap.size x5 V7 := (by repeat' (first | with_reducible exact Below.refl _ _ | with_reducible assumption | with_reducible apply Below.drew | with_reducible apply below_drewN | with_reducible apply Below.alloc | with_reducible apply Below.setCell | (with_reducible refine Below.trans ?_ (Below.mono (by assumption) ?_)) | (simp; done) | (simp; omega) | omega | with_reducible apply le_size_alloc | with_reducible apply le_size_drewN | with_reducible apply le_size_drew | with_reducible apply le_size_setCell | with_reducible refine Nat.le_trans ?_ (Below.size (by assumption))))
  have HB_8 : Hid (Below w.heap.size w V7) := HB_6.out.trans (bw8.mono HB_6.out.size)
  have Ma_8 : Hid (InMem V7 A1 A2 A3 [3, 2] [1] [false, false, false, false, false, false, false, false]) := Ma_6.out.ext bw8
  have a_8 : Hid (Blk V7 x1.heap.size 25 #[.slice A1 2 a1, .slice A2 1 a2, .slice A3 8 a3]) := a_6.out.below_ bw8 a_6.out.lt
  have Mb_8 : Hid (InMem V7 B1 B2 B3 [3] [2, 1] [false, false, false, false, false, false, false, false]) := Mb.out.ext bw8
  clear bw8 hbV7 HB_6 Ma_6 a_6 Mb
  go_wp2_with fail
  refine wp_region_chain [.is ?fq3n0, .is ?fq3n1, .is ?fq3n2, .is ?fq3n3, .is ?fq3n4, .is ?fq3n5, .is ?fq3n6, .is ?fq3n7, .has (LitS 3 2 [.int .i64 3, .int .i64 2]), .has (LitS 3 1 [.int .i64 1]), .has (LisS 2 1 [3, 2] [1] [false, false, false, false, false, false, false, false]), .is ?fq3n11, .is (.bool true), .is ?fq3n13, .is ?fq3n14, .is ?fq3n15, .is ?fq3n16, .has (LitS 3 1 [.int .i64 3]), .has (LitS 3 2 [.int .i64 2, .int .i64 1]), .has (LisS 1 2 [3] [2, 1] [false, false, false, false, false, false, false, false]), .is ?fq3n20, .is (.bool true), .is ?fq3n22, .is ?fq3n23] (by kernel_rfl) (by kernel_rfl) (by kernel_rfl) (lasts_is (lasts_is (lasts_is (lasts_is (lasts_is (lasts_is (lasts_is (lasts_is (lasts_has (LitS.lasts 3 2 [.int .i64 3, .int .i64 2]) (lasts_has (LitS.lasts 3 1 [.int .i64 1]) (lasts_has (LisS.lasts 2 1 [3, 2] [1] [false, false, false, false, false, false, false, false]) (lasts_is (lasts_is (lasts_is (lasts_is (lasts_is (lasts_is (lasts_has (LitS.lasts 3 1 [.int .i64 3]) (lasts_has (LitS.lasts 3 2 [.int .i64 2, .int .i64 1]) (lasts_has (LisS.lasts 1 2 [3] [2, 1] [false, false, false, false, false, false, false, false]) (lasts_is (lasts_is (lasts_is (lasts_is lasts_nil)))))))))))))))))))))))) (fun W0 hb0 hz0 => ?_)
  rotate_left 16
  have bw9 : Below V7.heap.size V7 W0 := (by repeat' (first | with_reducible exact Below.refl _ _ | with_reducible assumption | with_reducible apply Below.drew | with_reducible apply below_drewN | with_reducible apply Below.alloc | with_reducible apply Below.setCell | (with_reducible refine Below.trans ?_ (Below.mono (by assumption) ?_)) | (simp; done) | (simp; omega) | omega | with_reducible apply le_size_alloc | with_reducible apply le_size_drewN | with_reducible apply le_size_drew | with_reducible apply le_size_setCell | with_reducible refine Nat.le_trans ?_ (Below.size (by assumption))))
  have HB_9 : Hid (Below w.heap.size w W0) := HB_8.out.trans (bw9.mono HB_8.out.size)
  have Ma_9 : Hid (InMem W0 A1 A2 A3 [3, 2] [1] [false, false, false, false, false, false, false, false]) := Ma_8.out.ext bw9
  have a_9 : Hid (Blk W0 x1.heap.size 25 #[.slice A1 2 a1, .slice A2 1 a2, .slice A3 8 a3]) := a_8.out.below_ bw9 a_8.out.lt
  have Mb_9 : Hid (InMem W0 B1 B2 B3 [3] [2, 1] [false, false, false, false, false, false, false, false]) := Mb_8.out.ext bw9
  have b_9 : Hid (Blk W0 x5.heap.size 25 #[.slice B1 1 b1, .slice B2 2 b2, .slice B3 8 b3]) := hkV7.out.below_ bw9 hkV7.out.lt
  have qa0 : W0.cell? ⟨x1.heap.size, 0, none⟩ = some (.slice A1 2 a1) := (a_9.out.cell_ 0).trans (by simp)
  have qa1 : W0.cell? ⟨x1.heap.size, 1, none⟩ = some (.slice A2 1 a2) := (a_9.out.cell_ 1).trans (by simp)
  have qa2 : W0.cell? ⟨x1.heap.size, 2, none⟩ = some (.slice A3 8 a3) := (a_9.out.cell_ 2).trans (by simp)
  have za : x1.heap.size < W0.heap.size := a_9.out.lt
  have qb0 : W0.cell? ⟨x5.heap.size, 0, none⟩ = some (.slice B1 1 b1) := (b_9.out.cell_ 0).trans (by simp)
  have qb1 : W0.cell? ⟨x5.heap.size, 1, none⟩ = some (.slice B2 2 b2) := (b_9.out.cell_ 1).trans (by simp)
  have qb2 : W0.cell? ⟨x5.heap.size, 2, none⟩ = some (.slice B3 8 b3) := (b_9.out.cell_ 2).trans (by simp)
  have zb : x5.heap.size < W0.heap.size := b_9.out.lt
  refine chain_is (step_take (by rfl) ?yq3n0) ?rq3n0
  case yq3n0 =>
    intro w hbw hd
    clear hd
    go_simp
    first | done | with_reducible rfl
  (try simp only [Act.put, List.setIfInBounds_toArray, List.set_cons_zero, List.set_cons_succ, List.nil_append, List.cons_append])
  refine chain_is (step_take (by rfl) ?yq3n1) ?rq3n1
  case yq3n1 =>
    intro w hbw hd
    clear hd
    go_simp
    first | done | with_reducible rfl
  (try simp only [Act.put, List.setIfInBounds_toArray, List.set_cons_zero, List.set_cons_succ, List.nil_append, List.cons_append])
  refine chain_is (step_take (by rfl) ?yq3n2) ?rq3n2
  case yq3n2 =>
    intro w hbw hd
    clear hd
    go_simp
    first | done | with_reducible rfl
  (try simp only [Act.put, List.setIfInBounds_toArray, List.set_cons_zero, List.set_cons_succ, List.nil_append, List.cons_append])
  refine chain_is (step_take (by rfl) ?yq3n3) ?rq3n3
  case yq3n3 =>
    intro w hbw hd
    clear hd
    go_simp
    first | done | with_reducible rfl
  (try simp only [Act.put, List.setIfInBounds_toArray, List.set_cons_zero, List.set_cons_succ, List.nil_append, List.cons_append])
  refine chain_is (step_take (by rfl) ?yq3n4) ?rq3n4
  case yq3n4 =>
    intro w hbw hd
    clear hd
    go_simp
    first | done | with_reducible rfl
  (try simp only [Act.put, List.setIfInBounds_toArray, List.set_cons_zero, List.set_cons_succ, List.nil_append, List.cons_append])
  refine chain_is (step_take (by rfl) ?yq3n5) ?rq3n5
  case yq3n5 =>
    intro w hbw hd
    clear hd
    go_simp
    first | done | with_reducible rfl
  (try simp only [Act.put, List.setIfInBounds_toArray, List.set_cons_zero, List.set_cons_succ, List.nil_append, List.cons_append])
  refine chain_is (step_take (by rfl) ?yq3n6) ?rq3n6
  case yq3n6 =>
    intro w hbw hd
    clear hd
    go_simp
    first | done | with_reducible rfl
  (try simp only [Act.put, List.setIfInBounds_toArray, List.set_cons_zero, List.set_cons_succ, List.nil_append, List.cons_append])
  refine chain_is (step_take (by rfl) ?yq3n7) ?rq3n7
  case yq3n7 =>
    intro w hbw hd
    have r0 : w.cell? ⟨x1.heap.size, 0, none⟩ = some (.slice A1 2 a1) := cell_keep hbw qa0 za
    have r1 : w.cell? ⟨x1.heap.size, 1, none⟩ = some (.slice A2 1 a2) := cell_keep hbw qa1 za
    have r2 : w.cell? ⟨x1.heap.size, 2, none⟩ = some (.slice A3 8 a3) := cell_keep hbw qa2 za
    clear hd
    go_simp
    first | done | with_reducible rfl
  (try simp only [Act.put, List.setIfInBounds_toArray, List.set_cons_zero, List.set_cons_succ, List.nil_append, List.cons_append])
  refine chain_has ?sq3n8 (fun vq3n8 => ?rq3n8)
  case sq3n8 =>
    intro w hbw hd K Q' hK
    clear hd
    go_simp
    refine hK.out (.slice (some ⟨w.heap.size, 0, none⟩) 2 2) _ _ ?_ ?_ ?_
    · (simp only [Act.put, List.setIfInBounds_toArray, List.set_cons_zero, List.set_cons_succ, List.nil_append, List.cons_append])
    · exact (by repeat' (first | with_reducible exact Below.refl _ _ | with_reducible assumption | with_reducible apply Below.drew | with_reducible apply below_drewN | with_reducible apply Below.alloc | with_reducible apply Below.setCell | (with_reducible refine Below.trans ?_ (Below.mono (by assumption) ?_)) | (simp; done) | (simp; omega) | omega | with_reducible apply le_size_alloc | with_reducible apply le_size_drewN | with_reducible apply le_size_drew | with_reducible apply le_size_setCell | with_reducible refine Nat.le_trans ?_ (Below.size (by assumption))))
    · exact ⟨_, rfl, Blk.new_ rfl rfl⟩
  (try simp only [Act.put, List.setIfInBounds_toArray, List.set_cons_zero, List.set_cons_succ, List.nil_append, List.cons_append])
  refine chain_has ?sq3n9 (fun vq3n9 => ?rq3n9)
  case sq3n9 =>
    intro w hbw hd K Q' hK
    clear hd
    go_simp
    refine hK.out (.slice (some ⟨w.heap.size, 0, none⟩) 1 1) _ _ ?_ ?_ ?_
    · (simp only [Act.put, List.setIfInBounds_toArray, List.set_cons_zero, List.set_cons_succ, List.nil_append, List.cons_append])
    · exact (by repeat' (first | with_reducible exact Below.refl _ _ | with_reducible assumption | with_reducible apply Below.drew | with_reducible apply below_drewN | with_reducible apply Below.alloc | with_reducible apply Below.setCell | (with_reducible refine Below.trans ?_ (Below.mono (by assumption) ?_)) | (simp; done) | (simp; omega) | omega | with_reducible apply le_size_alloc | with_reducible apply le_size_drewN | with_reducible apply le_size_drew | with_reducible apply le_size_setCell | with_reducible refine Nat.le_trans ?_ (Below.size (by assumption))))
    · exact ⟨_, rfl, Blk.new_ rfl rfl⟩
  (try simp only [Act.put, List.setIfInBounds_toArray, List.set_cons_zero, List.set_cons_succ, List.nil_append, List.cons_append])
  refine chain_has ?sq3n10 (fun vq3n10 => ?rq3n10)
  case sq3n10 =>
    intro w hbw hd K Q' hK
    obtain ⟨g0, rfl, k0⟩ : LitS 3 2 [.int .i64 3, .int .i64 2] _ w := hd 8 _ _ (by rfl) rfl rfl
    obtain ⟨g1, rfl, k1⟩ : LitS 3 1 [.int .i64 1] _ w := hd 9 _ _ (by rfl) rfl rfl
    clear hd
    go_simp
    refine (lists_none (some ⟨g0, 0, none⟩) (some ⟨g1, 0, none⟩) 2 2 1 1 0 _).mono ?_
    rintro e x ⟨g, rfl, s, hx⟩
    go_wp2_with fail
    refine hK.out (.agg #[.slice (some ⟨g0, 0, none⟩) 2 2, .slice (some ⟨g1, 0, none⟩) 1 1, .slice (some ⟨g, 0, none⟩) 8 8]) _ _ ?_ ?_ ?_
    · (simp only [Act.put, List.setIfInBounds_toArray, List.set_cons_zero, List.set_cons_succ, List.nil_append, List.cons_append])
    · exact (by repeat' (first | with_reducible exact Below.refl _ _ | with_reducible assumption | with_reducible apply Below.drew | with_reducible apply below_drewN | with_reducible apply Below.alloc | with_reducible apply Below.setCell | (with_reducible refine Below.trans ?_ (Below.mono (by assumption) ?_)) | (simp; done) | (simp; omega) | omega | with_reducible apply le_size_alloc | with_reducible apply le_size_drewN | with_reducible apply le_size_drew | with_reducible apply le_size_setCell | with_reducible refine Nat.le_trans ?_ (Below.size (by assumption))))
    · exact ⟨_, _, _, rfl, inMem_lit (Sl.of_lit (t := 3) (xs := [3, 2]) (k0.below_ hx k0.lt)) (Sl.of_lit (t := 3) (xs := [1]) (k1.below_ hx k1.lt)) s (by simp) (by simp) (by simp) (by simp) (by simp)⟩
  (try simp only [Act.put, List.setIfInBounds_toArray, List.set_cons_zero, List.set_cons_succ, List.nil_append, List.cons_append])
  refine chain_is (step_take (by rfl) ?yq3n11) ?rq3n11
  case yq3n11 =>
    intro w hbw hd
    clear hd
    go_simp
    first | done | with_reducible rfl
  (try simp only [Act.put, List.setIfInBounds_toArray, List.set_cons_zero, List.set_cons_succ, List.nil_append, List.cons_append])
  refine chain_is ?sq3n12 ?rq3n12
  case sq3n12 =>
    intro w hbw hd K Q' hK
    obtain ⟨Q1, Q2, g, rfl, hm⟩ : LisS 2 1 [3, 2] [1] [false, false, false, false, false, false, false, false] _ w := hd 10 _ _ (by rfl) rfl rfl
    clear hd
    go_simp
    refine (is_lit A1 A2 A3 Q1 Q2 (some ⟨g, 0, none⟩) a1 a2 a3 2 1 8 2 1 [3, 2] [1] [false, false, false, false, false, false, false, false] _ rfl rfl rfl (Ma_9.out.ext hbw) hm (by omega) (by omega)).mono ?_
    rintro e x ⟨rfl, hx⟩
    go_wp2_with fail
    refine hK.out (.bool true) _ _ ?_ ?_ rfl
    · (simp only [Act.put, List.setIfInBounds_toArray, List.set_cons_zero, List.set_cons_succ, List.nil_append, List.cons_append])
    · exact (by repeat' (first | with_reducible exact Below.refl _ _ | with_reducible assumption | with_reducible apply Below.drew | with_reducible apply below_drewN | with_reducible apply Below.alloc | with_reducible apply Below.setCell | (with_reducible refine Below.trans ?_ (Below.mono (by assumption) ?_)) | (simp; done) | (simp; omega) | omega | with_reducible apply le_size_alloc | with_reducible apply le_size_drewN | with_reducible apply le_size_drew | with_reducible apply le_size_setCell | with_reducible refine Nat.le_trans ?_ (Below.size (by assumption))))
  (try simp only [Act.put, List.setIfInBounds_toArray, List.set_cons_zero, List.set_cons_succ, List.nil_append, List.cons_append])
  refine chain_is (step_take (by rfl) ?yq3n13) ?rq3n13
  case yq3n13 =>
    intro w hbw hd
    clear hd
    go_simp
    first | done | with_reducible rfl
  (try simp only [Act.put, List.setIfInBounds_toArray, List.set_cons_zero, List.set_cons_succ, List.nil_append, List.cons_append])
  refine chain_is (step_take (by rfl) ?yq3n14) ?rq3n14
  case yq3n14 =>
    intro w hbw hd
    clear hd
    go_simp
    first | done | with_reducible rfl
  (try simp only [Act.put, List.setIfInBounds_toArray, List.set_cons_zero, List.set_cons_succ, List.nil_append, List.cons_append])
  refine chain_is (step_take (by rfl) ?yq3n15) ?rq3n15
  case yq3n15 =>
    intro w hbw hd
    clear hd
    go_simp
    first | done | with_reducible rfl
  (try simp only [Act.put, List.setIfInBounds_toArray, List.set_cons_zero, List.set_cons_succ, List.nil_append, List.cons_append])
  refine chain_is (step_take (by rfl) ?yq3n16) ?rq3n16
  case yq3n16 =>
    intro w hbw hd
    have r0 : w.cell? ⟨x5.heap.size, 0, none⟩ = some (.slice B1 1 b1) := cell_keep hbw qb0 zb
    have r1 : w.cell? ⟨x5.heap.size, 1, none⟩ = some (.slice B2 2 b2) := cell_keep hbw qb1 zb
    have r2 : w.cell? ⟨x5.heap.size, 2, none⟩ = some (.slice B3 8 b3) := cell_keep hbw qb2 zb
    clear hd
    go_simp
    first | done | with_reducible rfl
  (try simp only [Act.put, List.setIfInBounds_toArray, List.set_cons_zero, List.set_cons_succ, List.nil_append, List.cons_append])
  refine chain_has ?sq3n17 (fun vq3n17 => ?rq3n17)
  case sq3n17 =>
    intro w hbw hd K Q' hK
    clear hd
    go_simp
    refine hK.out (.slice (some ⟨w.heap.size, 0, none⟩) 1 1) _ _ ?_ ?_ ?_
    · (simp only [Act.put, List.setIfInBounds_toArray, List.set_cons_zero, List.set_cons_succ, List.nil_append, List.cons_append])
    · exact (by repeat' (first | with_reducible exact Below.refl _ _ | with_reducible assumption | with_reducible apply Below.drew | with_reducible apply below_drewN | with_reducible apply Below.alloc | with_reducible apply Below.setCell | (with_reducible refine Below.trans ?_ (Below.mono (by assumption) ?_)) | (simp; done) | (simp; omega) | omega | with_reducible apply le_size_alloc | with_reducible apply le_size_drewN | with_reducible apply le_size_drew | with_reducible apply le_size_setCell | with_reducible refine Nat.le_trans ?_ (Below.size (by assumption))))
    · exact ⟨_, rfl, Blk.new_ rfl rfl⟩
  (try simp only [Act.put, List.setIfInBounds_toArray, List.set_cons_zero, List.set_cons_succ, List.nil_append, List.cons_append])
  refine chain_has ?sq3n18 (fun vq3n18 => ?rq3n18)
  case sq3n18 =>
    intro w hbw hd K Q' hK
    clear hd
    go_simp
    refine hK.out (.slice (some ⟨w.heap.size, 0, none⟩) 2 2) _ _ ?_ ?_ ?_
    · (simp only [Act.put, List.setIfInBounds_toArray, List.set_cons_zero, List.set_cons_succ, List.nil_append, List.cons_append])
    · exact (by repeat' (first | with_reducible exact Below.refl _ _ | with_reducible assumption | with_reducible apply Below.drew | with_reducible apply below_drewN | with_reducible apply Below.alloc | with_reducible apply Below.setCell | (with_reducible refine Below.trans ?_ (Below.mono (by assumption) ?_)) | (simp; done) | (simp; omega) | omega | with_reducible apply le_size_alloc | with_reducible apply le_size_drewN | with_reducible apply le_size_drew | with_reducible apply le_size_setCell | with_reducible refine Nat.le_trans ?_ (Below.size (by assumption))))
    · exact ⟨_, rfl, Blk.new_ rfl rfl⟩
  (try simp only [Act.put, List.setIfInBounds_toArray, List.set_cons_zero, List.set_cons_succ, List.nil_append, List.cons_append])
  refine chain_has ?sq3n19 (fun vq3n19 => ?rq3n19)
  case sq3n19 =>
    intro w hbw hd K Q' hK
    obtain ⟨g0, rfl, k0⟩ : LitS 3 1 [.int .i64 3] _ w := hd 17 _ _ (by rfl) rfl rfl
    obtain ⟨g1, rfl, k1⟩ : LitS 3 2 [.int .i64 2, .int .i64 1] _ w := hd 18 _ _ (by rfl) rfl rfl
    clear hd
    go_simp
    refine (lists_none (some ⟨g0, 0, none⟩) (some ⟨g1, 0, none⟩) 1 1 2 2 0 _).mono ?_
    rintro e x ⟨g, rfl, s, hx⟩
    go_wp2_with fail
    refine hK.out (.agg #[.slice (some ⟨g0, 0, none⟩) 1 1, .slice (some ⟨g1, 0, none⟩) 2 2, .slice (some ⟨g, 0, none⟩) 8 8]) _ _ ?_ ?_ ?_
    · (simp only [Act.put, List.setIfInBounds_toArray, List.set_cons_zero, List.set_cons_succ, List.nil_append, List.cons_append])
    · exact (by repeat' (first | with_reducible exact Below.refl _ _ | with_reducible assumption | with_reducible apply Below.drew | with_reducible apply below_drewN | with_reducible apply Below.alloc | with_reducible apply Below.setCell | (with_reducible refine Below.trans ?_ (Below.mono (by assumption) ?_)) | (simp; done) | (simp; omega) | omega | with_reducible apply le_size_alloc | with_reducible apply le_size_drewN | with_reducible apply le_size_drew | with_reducible apply le_size_setCell | with_reducible refine Nat.le_trans ?_ (Below.size (by assumption))))
    · exact ⟨_, _, _, rfl, inMem_lit (Sl.of_lit (t := 3) (xs := [3]) (k0.below_ hx k0.lt)) (Sl.of_lit (t := 3) (xs := [2, 1]) (k1.below_ hx k1.lt)) s (by simp) (by simp) (by simp) (by simp) (by simp)⟩
  (try simp only [Act.put, List.setIfInBounds_toArray, List.set_cons_zero, List.set_cons_succ, List.nil_append, List.cons_append])
  refine chain_is (step_take (by rfl) ?yq3n20) ?rq3n20
  case yq3n20 =>
    intro w hbw hd
    clear hd
    go_simp
    first | done | with_reducible rfl
  (try simp only [Act.put, List.setIfInBounds_toArray, List.set_cons_zero, List.set_cons_succ, List.nil_append, List.cons_append])
  refine chain_is ?sq3n21 ?rq3n21
  case sq3n21 =>
    intro w hbw hd K Q' hK
    obtain ⟨Q1, Q2, g, rfl, hm⟩ : LisS 1 2 [3] [2, 1] [false, false, false, false, false, false, false, false] _ w := hd 19 _ _ (by rfl) rfl rfl
    clear hd
    go_simp
    refine (is_lit B1 B2 B3 Q1 Q2 (some ⟨g, 0, none⟩) b1 b2 b3 1 2 8 1 2 [3] [2, 1] [false, false, false, false, false, false, false, false] _ rfl rfl rfl (Mb_9.out.ext hbw) hm (by omega) (by omega)).mono ?_
    rintro e x ⟨rfl, hx⟩
    go_wp2_with fail
    refine hK.out (.bool true) _ _ ?_ ?_ rfl
    · (simp only [Act.put, List.setIfInBounds_toArray, List.set_cons_zero, List.set_cons_succ, List.nil_append, List.cons_append])
    · exact (by repeat' (first | with_reducible exact Below.refl _ _ | with_reducible assumption | with_reducible apply Below.drew | with_reducible apply below_drewN | with_reducible apply Below.alloc | with_reducible apply Below.setCell | (with_reducible refine Below.trans ?_ (Below.mono (by assumption) ?_)) | (simp; done) | (simp; omega) | omega | with_reducible apply le_size_alloc | with_reducible apply le_size_drewN | with_reducible apply le_size_drew | with_reducible apply le_size_setCell | with_reducible refine Nat.le_trans ?_ (Below.size (by assumption))))
  (try simp only [Act.put, List.setIfInBounds_toArray, List.set_cons_zero, List.set_cons_succ, List.nil_append, List.cons_append])
  refine chain_is (step_take (by rfl) ?yq3n22) ?rq3n22
  case yq3n22 =>
    intro w hbw hd
    clear hd
    go_simp
    first | done | with_reducible rfl
  (try simp only [Act.put, List.setIfInBounds_toArray, List.set_cons_zero, List.set_cons_succ, List.nil_append, List.cons_append])
  refine chain_is (step_take (by rfl) ?yq3n23) ?rq3n23
  case yq3n23 =>
    intro w hbw hd
    clear hd
    go_simp
    first | done | with_reducible rfl
  (try simp only [Act.put, List.setIfInBounds_toArray, List.set_cons_zero, List.set_cons_succ, List.nil_append, List.cons_append])
  refine chain_end (fun wz hbz hd => ?_)
  clear hd
  have bw11 : Below W0.heap.size W0 wz := (by repeat' (first | with_reducible exact Below.refl _ _ | with_reducible assumption | with_reducible apply Below.drew | with_reducible apply below_drewN | with_reducible apply Below.alloc | with_reducible apply Below.setCell | (with_reducible refine Below.trans ?_ (Below.mono (by assumption) ?_)) | (simp; done) | (simp; omega) | omega | with_reducible apply le_size_alloc | with_reducible apply le_size_drewN | with_reducible apply le_size_drew | with_reducible apply le_size_setCell | with_reducible refine Nat.le_trans ?_ (Below.size (by assumption))))
  have HB_11 : Hid (Below w.heap.size w wz) := HB_9.out.trans (bw11.mono HB_9.out.size)
  have Ma_11 : Hid (InMem wz A1 A2 A3 [3, 2] [1] [false, false, false, false, false, false, false, false]) := Ma_9.out.ext bw11
  have a_11 : Hid (Blk wz x1.heap.size 25 #[.slice A1 2 a1, .slice A2 1 a2, .slice A3 8 a3]) := a_9.out.below_ bw11 a_9.out.lt
  have Mb_11 : Hid (InMem wz B1 B2 B3 [3] [2, 1] [false, false, false, false, false, false, false, false]) := Mb_9.out.ext bw11
  have b_11 : Hid (Blk wz x5.heap.size 25 #[.slice B1 1 b1, .slice B2 2 b2, .slice B3 8 b3]) := b_9.out.below_ bw11 b_9.out.lt
  clear bw11 hbz HB_9 Ma_9 a_9 Mb_9 b_9
  clear hz0 bw9 hb0 HB_8 Ma_8 a_8 Mb_8 hkV7 qa0 qa1 qa2 za qb0 qb1 qb2 zb
  obtain ⟨x10, rfl⟩ : ∃ x10 : World, x10 = wz := ⟨_, rfl⟩
  clear Ma_11
  clear a_11
  have kb0 : x10.cell? ⟨x5.heap.size, 0, none⟩ = some (.slice B1 1 b1) := (b_11.out.cell_ 0).trans (by simp)
  have kb1 : x10.cell? ⟨x5.heap.size, 1, none⟩ = some (.slice B2 2 b2) := (b_11.out.cell_ 1).trans (by simp)
  have kb2 : x10.cell? ⟨x5.heap.size, 2, none⟩ = some (.slice B3 8 b3) := (b_11.out.cell_ 2).trans (by simp)
  go_wp2_with fail
  have Hc : Hid (touS [3] [2, 1] [false, false, false, false, false, false, false, false] 1 = ⟨[3], [2, 1], [false, true, false, false, false, false, false, false], 0⟩) := by show _ = _; kernel_rfl
  refine (Touch_S _ _ _ _ _ _ [3] [2, 1] [false, false, false, false, false, false, false, false] _ Mb_11.out 1).mono ?_
  unfold LPost
  rw [Hc.out]
  rintro e x12 ⟨C1, c1, C2, c2, C3, c3, rfl, mc, tc, hx12⟩
  clear kb0 kb1 kb2
  have bw13 : Below x10.heap.size x10 x12 := (by repeat' (first | with_reducible exact Below.refl _ _ | with_reducible assumption | with_reducible apply Below.drew | with_reducible apply below_drewN | with_reducible apply Below.alloc | with_reducible apply Below.setCell | (with_reducible refine Below.trans ?_ (Below.mono (by assumption) ?_)) | (simp; done) | (simp; omega) | omega | with_reducible apply le_size_alloc | with_reducible apply le_size_drewN | with_reducible apply le_size_drew | with_reducible apply le_size_setCell | with_reducible refine Nat.le_trans ?_ (Below.size (by assumption))))
  have HB_13 : Hid (Below w.heap.size w x12) := HB_11.out.trans (bw13.mono HB_11.out.size)
  have Mb_13 : Hid (InMem x12 B1 B2 B3 [3] [2, 1] [false, false, false, false, false, false, false, false]) := Mb_11.out.ext bw13
  have b_13 : Hid (Blk x12 x5.heap.size 25 #[.slice B1 1 b1, .slice B2 2 b2, .slice B3 8 b3]) := b_11.out.below_ bw13 b_11.out.lt
  clear bw13 hx12 HB_11 Mb_11 b_11
  dsimp only at mc ⊢
  simp only [List.length_cons, List.length_nil, Nat.reduceAdd]
  have Mc := Lib.hid mc
  clear mc tc Hc
  go_wp2_with fail
  obtain ⟨V14, hV14⟩ : ∃ V, x12.alloc (.cells #[.slice C1 1 c1, .slice C2 2 c2, .slice C3 8 c3] 25) = V := ⟨_, rfl⟩
  have hbV14 : Below x12.heap.size x12 V14 := by rw [← hV14]; exact (by repeat' (first | with_reducible exact Below.refl _ _ | with_reducible assumption | with_reducible apply Below.drew | with_reducible apply below_drewN | with_reducible apply Below.alloc | with_reducible apply Below.setCell | (with_reducible refine Below.trans ?_ (Below.mono (by assumption) ?_)) | (simp; done) | (simp; omega) | omega | with_reducible apply le_size_alloc | with_reducible apply le_size_drewN | with_reducible apply le_size_drew | with_reducible apply le_size_setCell | with_reducible refine Nat.le_trans ?_ (Below.size (by assumption))))
  have hkV14 : Hid (Blk V14 x12.heap.size 25 #[.slice C1 1 c1, .slice C2 2 c2, .slice C3 8 c3]) := by show Blk _ _ _ _; rw [← hV14]; exact Blk.new_ rfl rfl
  rw [hV14]
  clear hV14
  have bw15 : Below x12.heap.size x12 V14 := (by repeat' (first | with_reducible exact Below.refl _ _ | with_reducible assumption | with_reducible apply Below.drew | with_reducible apply below_drewN | with_reducible apply Below.alloc | with_reducible apply Below.setCell | (with_reducible refine Below.trans ?_ (Below.mono (by assumption) ?_)) | (simp; done) | (simp; omega) | omega | with_reducible apply le_size_alloc | with_reducible apply le_size_drewN | with_reducible apply le_size_drew | with_reducible apply le_size_setCell | with_reducible refine Nat.le_trans ?_ (Below.size (by assumption))))
  have HB_15 : Hid (Below w.heap.size w V14) := HB_13.out.trans (bw15.mono HB_13.out.size)
  have Mb_15 : Hid (InMem V14 B1 B2 B3 [3] [2, 1] [false, false, false, false, false, false, false, false]) := Mb_13.out.ext bw15
  have b_15 : Hid (Blk V14 x5.heap.size 25 #[.slice B1 1 b1, .slice B2 2 b2, .slice B3 8 b3]) := b_13.out.below_ bw15 b_13.out.lt
  have Mc_15 : Hid (InMem V14 C1 C2 C3 [3] [2, 1] [false, true, false, false, false, false, false, false]) := Mc.out.ext bw15
  clear bw15 hbV14 HB_13 Mb_13 b_13 Mc
  clear Mb_15
  clear b_15
  have kc0 : V14.cell? ⟨x12.heap.size, 0, none⟩ = some (.slice C1 1 c1) := (hkV14.out.cell_ 0).trans (by simp)
  have kc1 : V14.cell? ⟨x12.heap.size, 1, none⟩ = some (.slice C2 2 c2) := (hkV14.out.cell_ 1).trans (by simp)
  have kc2 : V14.cell? ⟨x12.heap.size, 2, none⟩ = some (.slice C3 8 c3) := (hkV14.out.cell_ 2).trans (by simp)
  go_wp2_with fail
  have Hd : Hid (proS [3] [2, 1] [false, true, false, false, false, false, false, false] = ⟨[1, 3], [2], [false, false, false, false, false, false, false, false], 0⟩) := by show _ = _; kernel_rfl
  have Fd : Hid (proF [3] [2, 1] [false, true, false, false, false, false, false, false] = 1) := by show _ = _; kernel_rfl
  refine (Promote_S _ _ _ _ _ _ [3] [2, 1] [false, true, false, false, false, false, false, false] _ Mc_15.out).mono ?_
  unfold LPost3
  rw [Hd.out, Fd.out]
  rintro e x16 ⟨D1, d1, D2, d2, D3, d3, rfl, md, td, hx16⟩
  clear kc0 kc1 kc2
  have bw17 : Below V14.heap.size V14 x16 := (by repeat' (first | with_reducible exact Below.refl _ _ | with_reducible assumption | with_reducible apply Below.drew | with_reducible apply below_drewN | with_reducible apply Below.alloc | with_reducible apply Below.setCell | (with_reducible refine Below.trans ?_ (Below.mono (by assumption) ?_)) | (simp; done) | (simp; omega) | omega | with_reducible apply le_size_alloc | with_reducible apply le_size_drewN | with_reducible apply le_size_drew | with_reducible apply le_size_setCell | with_reducible refine Nat.le_trans ?_ (Below.size (by assumption))))
  have HB_17 : Hid (Below w.heap.size w x16) := HB_15.out.trans (bw17.mono HB_15.out.size)
  have Mc_17 : Hid (InMem x16 C1 C2 C3 [3] [2, 1] [false, true, false, false, false, false, false, false]) := Mc_15.out.ext bw17
  have c_17 : Hid (Blk x16 x12.heap.size 25 #[.slice C1 1 c1, .slice C2 2 c2, .slice C3 8 c3]) := hkV14.out.below_ bw17 hkV14.out.lt
  clear bw17 hx16 HB_15 Mc_15 hkV14
  dsimp only at md ⊢
  simp only [List.length_cons, List.length_nil, Nat.reduceAdd]
  have Md := Lib.hid md
  clear md td Hd Fd
  go_wp2_with fail
  obtain ⟨V18, hV18⟩ : ∃ V, x16.alloc (.cells #[.slice D1 2 d1, .slice D2 1 d2, .slice D3 8 d3] 25) = V := ⟨_, rfl⟩
  have hbV18 : Below x16.heap.size x16 V18 := by rw [← hV18]; exact (by repeat' (first | with_reducible exact Below.refl _ _ | with_reducible assumption | with_reducible apply Below.drew | with_reducible apply below_drewN | with_reducible apply Below.alloc | with_reducible apply Below.setCell | (with_reducible refine Below.trans ?_ (Below.mono (by assumption) ?_)) | (simp; done) | (simp; omega) | omega | with_reducible apply le_size_alloc | with_reducible apply le_size_drewN | with_reducible apply le_size_drew | with_reducible apply le_size_setCell | with_reducible refine Nat.le_trans ?_ (Below.size (by assumption))))
  have hkV18 : Hid (Blk V18 x16.heap.size 25 #[.slice D1 2 d1, .slice D2 1 d2, .slice D3 8 d3]) := by show Blk _ _ _ _; rw [← hV18]; exact Blk.new_ rfl rfl
  rw [hV18]
  clear hV18
  have bw19 : Below x16.heap.size x16 V18 := (by repeat' (first | with_reducible exact Below.refl _ _ | with_reducible assumption | with_reducible apply Below.drew | with_reducible apply below_drewN | with_reducible apply Below.alloc | with_reducible apply Below.setCell | (with_reducible refine Below.trans ?_ (Below.mono (by assumption) ?_)) | (simp; done) | (simp; omega) | omega | with_reducible apply le_size_alloc | with_reducible apply le_size_drewN | with_reducible apply le_size_drew | with_reducible apply le_size_setCell | with_reducible refine Nat.le_trans ?_ (Below.size (by assumption))))
  have HB_19 : Hid (Below w.heap.size w V18) := HB_17.out.trans (bw19.mono HB_17.out.size)
  have Mc_19 : Hid (InMem V18 C1 C2 C3 [3] [2, 1] [false, true, false, false, false, false, false, false]) := Mc_17.out.ext bw19
  have c_19 : Hid (Blk V18 x12.heap.size 25 #[.slice C1 1 c1, .slice C2 2 c2, .slice C3 8 c3]) := c_17.out.below_ bw19 c_17.out.lt
  have Md_19 : Hid (InMem V18 D1 D2 D3 [1, 3] [2] [false, false, false, false, false, false, false, false]) := Md.out.ext bw19
  clear bw19 hbV18 HB_17 Mc_17 c_17 Md
  go_wp2_with fail
  refine wp_region_chain [.is ?fq7n0, .is ?fq7n1, .is ?fq7n2, .is ?fq7n3, .has (LitS 3 1 [.int .i64 3]), .has (LitS 3 2 [.int .i64 2, .int .i64 1]), .has (LitS 3 1 [.int .i64 1]), .has (LisS 1 2 [3] [2, 1] [false, true, false, false, false, false, false, false]), .is ?fq7n8, .is (.bool true), .is ?fq7n10, .is ?fq7n11, .is ?fq7n12, .is ?fq7n13, .has (LitS 3 2 [.int .i64 1, .int .i64 3]), .has (LitS 3 1 [.int .i64 2]), .has (LisS 2 1 [1, 3] [2] [false, false, false, false, false, false, false, false]), .is ?fq7n17, .is (.bool true), .is ?fq7n19, .is ?fq7n20] (by kernel_rfl) (by kernel_rfl) (by kernel_rfl) (lasts_is (lasts_is (lasts_is (lasts_is (lasts_has (LitS.lasts 3 1 [.int .i64 3]) (lasts_has (LitS.lasts 3 2 [.int .i64 2, .int .i64 1]) (lasts_has (LitS.lasts 3 1 [.int .i64 1]) (lasts_has (LisS.lasts 1 2 [3] [2, 1] [false, true, false, false, false, false, false, false]) (lasts_is (lasts_is (lasts_is (lasts_is (lasts_is (lasts_is (lasts_has (LitS.lasts 3 2 [.int .i64 1, .int .i64 3]) (lasts_has (LitS.lasts 3 1 [.int .i64 2]) (lasts_has (LisS.lasts 2 1 [1, 3] [2] [false, false, false, false, false, false, false, false]) (lasts_is (lasts_is (lasts_is (lasts_is lasts_nil))))))))))))))))))))) (fun W0 hb0 hz0 => ?_)
  rotate_left 12
  have bw20 : Below V18.heap.size V18 W0 := (by repeat' (first | with_reducible exact Below.refl _ _ | with_reducible assumption | with_reducible apply Below.drew | with_reducible apply below_drewN | with_reducible apply Below.alloc | with_reducible apply Below.setCell | (with_reducible refine Below.trans ?_ (Below.mono (by assumption) ?_)) | (simp; done) | (simp; omega) | omega | with_reducible apply le_size_alloc | with_reducible apply le_size_drewN | with_reducible apply le_size_drew | with_reducible apply le_size_setCell | with_reducible refine Nat.le_trans ?_ (Below.size (by assumption))))
  have HB_20 : Hid (Below w.heap.size w W0) := HB_19.out.trans (bw20.mono HB_19.out.size)
  have Mc_20 : Hid (InMem W0 C1 C2 C3 [3] [2, 1] [false, true, false, false, false, false, false, false]) := Mc_19.out.ext bw20
  have c_20 : Hid (Blk W0 x12.heap.size 25 #[.slice C1 1 c1, .slice C2 2 c2, .slice C3 8 c3]) := c_19.out.below_ bw20 c_19.out.lt
  have Md_20 : Hid (InMem W0 D1 D2 D3 [1, 3] [2] [false, false, false, false, false, false, false, false]) := Md_19.out.ext bw20
  have d_20 : Hid (Blk W0 x16.heap.size 25 #[.slice D1 2 d1, .slice D2 1 d2, .slice D3 8 d3]) := hkV18.out.below_ bw20 hkV18.out.lt
  have qc0 : W0.cell? ⟨x12.heap.size, 0, none⟩ = some (.slice C1 1 c1) := (c_20.out.cell_ 0).trans (by simp)
  have qc1 : W0.cell? ⟨x12.heap.size, 1, none⟩ = some (.slice C2 2 c2) := (c_20.out.cell_ 1).trans (by simp)
  have qc2 : W0.cell? ⟨x12.heap.size, 2, none⟩ = some (.slice C3 8 c3) := (c_20.out.cell_ 2).trans (by simp)
  have zc : x12.heap.size < W0.heap.size := c_20.out.lt
  have qd0 : W0.cell? ⟨x16.heap.size, 0, none⟩ = some (.slice D1 2 d1) := (d_20.out.cell_ 0).trans (by simp)
  have qd1 : W0.cell? ⟨x16.heap.size, 1, none⟩ = some (.slice D2 1 d2) := (d_20.out.cell_ 1).trans (by simp)
  have qd2 : W0.cell? ⟨x16.heap.size, 2, none⟩ = some (.slice D3 8 d3) := (d_20.out.cell_ 2).trans (by simp)
  have zd : x16.heap.size < W0.heap.size := d_20.out.lt
  refine chain_is (step_take (by rfl) ?yq7n0) ?rq7n0
  case yq7n0 =>
    intro w hbw hd
    clear hd
    go_simp
    first | done | with_reducible rfl
  (try simp only [Act.put, List.setIfInBounds_toArray, List.set_cons_zero, List.set_cons_succ, List.nil_append, List.cons_append])
  refine chain_is (step_take (by rfl) ?yq7n1) ?rq7n1
  case yq7n1 =>
    intro w hbw hd
    clear hd
    go_simp
    first | done | with_reducible rfl
  (try simp only [Act.put, List.setIfInBounds_toArray, List.set_cons_zero, List.set_cons_succ, List.nil_append, List.cons_append])
  refine chain_is (step_take (by rfl) ?yq7n2) ?rq7n2
  case yq7n2 =>
    intro w hbw hd
    clear hd
    go_simp
    first | done | with_reducible rfl
  (try simp only [Act.put, List.setIfInBounds_toArray, List.set_cons_zero, List.set_cons_succ, List.nil_append, List.cons_append])
  refine chain_is (step_take (by rfl) ?yq7n3) ?rq7n3
  case yq7n3 =>
    intro w hbw hd
    have r0 : w.cell? ⟨x12.heap.size, 0, none⟩ = some (.slice C1 1 c1) := cell_keep hbw qc0 zc
    have r1 : w.cell? ⟨x12.heap.size, 1, none⟩ = some (.slice C2 2 c2) := cell_keep hbw qc1 zc
    have r2 : w.cell? ⟨x12.heap.size, 2, none⟩ = some (.slice C3 8 c3) := cell_keep hbw qc2 zc
    clear hd
    go_simp
    first | done | with_reducible rfl
  (try simp only [Act.put, List.setIfInBounds_toArray, List.set_cons_zero, List.set_cons_succ, List.nil_append, List.cons_append])
  refine chain_has ?sq7n4 (fun vq7n4 => ?rq7n4)
  case sq7n4 =>
    intro w hbw hd K Q' hK
    clear hd
    go_simp
    refine hK.out (.slice (some ⟨w.heap.size, 0, none⟩) 1 1) _ _ ?_ ?_ ?_
    · (simp only [Act.put, List.setIfInBounds_toArray, List.set_cons_zero, List.set_cons_succ, List.nil_append, List.cons_append])
    · exact (by repeat' (first | with_reducible exact Below.refl _ _ | with_reducible assumption | with_reducible apply Below.drew | with_reducible apply below_drewN | with_reducible apply Below.alloc | with_reducible apply Below.setCell | (with_reducible refine Below.trans ?_ (Below.mono (by assumption) ?_)) | (simp; done) | (simp; omega) | omega | with_reducible apply le_size_alloc | with_reducible apply le_size_drewN | with_reducible apply le_size_drew | with_reducible apply le_size_setCell | with_reducible refine Nat.le_trans ?_ (Below.size (by assumption))))
    · exact ⟨_, rfl, Blk.new_ rfl rfl⟩
  (try simp only [Act.put, List.setIfInBounds_toArray, List.set_cons_zero, List.set_cons_succ, List.nil_append, List.cons_append])
  refine chain_has ?sq7n5 (fun vq7n5 => ?rq7n5)
  case sq7n5 =>
    intro w hbw hd K Q' hK
    clear hd
    go_simp
    refine hK.out (.slice (some ⟨w.heap.size, 0, none⟩) 2 2) _ _ ?_ ?_ ?_
    · (simp only [Act.put, List.setIfInBounds_toArray, List.set_cons_zero, List.set_cons_succ, List.nil_append, List.cons_append])
    · exact (by repeat' (first | with_reducible exact Below.refl _ _ | with_reducible assumption | with_reducible apply Below.drew | with_reducible apply below_drewN | with_reducible apply Below.alloc | with_reducible apply Below.setCell | (with_reducible refine Below.trans ?_ (Below.mono (by assumption) ?_)) | (simp; done) | (simp; omega) | omega | with_reducible apply le_size_alloc | with_reducible apply le_size_drewN | with_reducible apply le_size_drew | with_reducible apply le_size_setCell | with_reducible refine Nat.le_trans ?_ (Below.size (by assumption))))
    · exact ⟨_, rfl, Blk.new_ rfl rfl⟩
  (try simp only [Act.put, List.setIfInBounds_toArray, List.set_cons_zero, List.set_cons_succ, List.nil_append, List.cons_append])
  refine chain_has ?sq7n6 (fun vq7n6 => ?rq7n6)
  case sq7n6 =>
    intro w hbw hd K Q' hK
    clear hd
    go_simp
    refine hK.out (.slice (some ⟨w.heap.size, 0, none⟩) 1 1) _ _ ?_ ?_ ?_
    · (simp only [Act.put, List.setIfInBounds_toArray, List.set_cons_zero, List.set_cons_succ, List.nil_append, List.cons_append])
    · exact (by repeat' (first | with_reducible exact Below.refl _ _ | with_reducible assumption | with_reducible apply Below.drew | with_reducible apply below_drewN | with_reducible apply Below.alloc | with_reducible apply Below.setCell | (with_reducible refine Below.trans ?_ (Below.mono (by assumption) ?_)) | (simp; done) | (simp; omega) | omega | with_reducible apply le_size_alloc | with_reducible apply le_size_drewN | with_reducible apply le_size_drew | with_reducible apply le_size_setCell | with_reducible refine Nat.le_trans ?_ (Below.size (by assumption))))
    · exact ⟨_, rfl, Blk.new_ rfl rfl⟩
  (try simp only [Act.put, List.setIfInBounds_toArray, List.set_cons_zero, List.set_cons_succ, List.nil_append, List.cons_append])
  refine chain_has ?sq7n7 (fun vq7n7 => ?rq7n7)
  case sq7n7 =>
    intro w hbw hd K Q' hK
    obtain ⟨g0, rfl, k0⟩ : LitS 3 1 [.int .i64 3] _ w := hd 4 _ _ (by rfl) rfl rfl
    obtain ⟨g1, rfl, k1⟩ : LitS 3 2 [.int .i64 2, .int .i64 1] _ w := hd 5 _ _ (by rfl) rfl rfl
    obtain ⟨g2, rfl, k2⟩ : LitS 3 1 [.int .i64 1] _ w := hd 6 _ _ (by rfl) rfl rfl
    clear hd
    go_simp
    refine (lists_one (some ⟨g0, 0, none⟩) (some ⟨g1, 0, none⟩) 1 1 2 2 g2 _ k2).mono ?_
    rintro e x ⟨g, rfl, s, hx⟩
    go_wp2_with fail
    refine hK.out (.agg #[.slice (some ⟨g0, 0, none⟩) 1 1, .slice (some ⟨g1, 0, none⟩) 2 2, .slice (some ⟨g, 0, none⟩) 8 8]) _ _ ?_ ?_ ?_
    · (simp only [Act.put, List.setIfInBounds_toArray, List.set_cons_zero, List.set_cons_succ, List.nil_append, List.cons_append])
    · exact (by repeat' (first | with_reducible exact Below.refl _ _ | with_reducible assumption | with_reducible apply Below.drew | with_reducible apply below_drewN | with_reducible apply Below.alloc | with_reducible apply Below.setCell | (with_reducible refine Below.trans ?_ (Below.mono (by assumption) ?_)) | (simp; done) | (simp; omega) | omega | with_reducible apply le_size_alloc | with_reducible apply le_size_drewN | with_reducible apply le_size_drew | with_reducible apply le_size_setCell | with_reducible refine Nat.le_trans ?_ (Below.size (by assumption))))
    · exact ⟨_, _, _, rfl, inMem_lit (Sl.of_lit (t := 3) (xs := [3]) (k0.below_ hx k0.lt)) (Sl.of_lit (t := 3) (xs := [2, 1]) (k1.below_ hx k1.lt)) s (by simp) (by simp) (by simp) (by simp) (by simp)⟩
  (try simp only [Act.put, List.setIfInBounds_toArray, List.set_cons_zero, List.set_cons_succ, List.nil_append, List.cons_append])
  refine chain_is (step_take (by rfl) ?yq7n8) ?rq7n8
  case yq7n8 =>
    intro w hbw hd
    clear hd
    go_simp
    first | done | with_reducible rfl
  (try simp only [Act.put, List.setIfInBounds_toArray, List.set_cons_zero, List.set_cons_succ, List.nil_append, List.cons_append])
  refine chain_is ?sq7n9 ?rq7n9
  case sq7n9 =>
    intro w hbw hd K Q' hK
    obtain ⟨Q1, Q2, g, rfl, hm⟩ : LisS 1 2 [3] [2, 1] [false, true, false, false, false, false, false, false] _ w := hd 7 _ _ (by rfl) rfl rfl
    clear hd
    go_simp
    refine (is_lit C1 C2 C3 Q1 Q2 (some ⟨g, 0, none⟩) c1 c2 c3 1 2 8 1 2 [3] [2, 1] [false, true, false, false, false, false, false, false] _ rfl rfl rfl (Mc_20.out.ext hbw) hm (by omega) (by omega)).mono ?_
    rintro e x ⟨rfl, hx⟩
    go_wp2_with fail
    refine hK.out (.bool true) _ _ ?_ ?_ rfl
    · (simp only [Act.put, List.setIfInBounds_toArray, List.set_cons_zero, List.set_cons_succ, List.nil_append, List.cons_append])
    · exact (by repeat' (first | with_reducible exact Below.refl _ _ | with_reducible assumption | with_reducible apply Below.drew | with_reducible apply below_drewN | with_reducible apply Below.alloc | with_reducible apply Below.setCell | (with_reducible refine Below.trans ?_ (Below.mono (by assumption) ?_)) | (simp; done) | (simp; omega) | omega | with_reducible apply le_size_alloc | with_reducible apply le_size_drewN | with_reducible apply le_size_drew | with_reducible apply le_size_setCell | with_reducible refine Nat.le_trans ?_ (Below.size (by assumption))))
  (try simp only [Act.put, List.setIfInBounds_toArray, List.set_cons_zero, List.set_cons_succ, List.nil_append, List.cons_append])
  refine chain_is (step_take (by rfl) ?yq7n10) ?rq7n10
  case yq7n10 =>
    intro w hbw hd
    clear hd
    go_simp
    first | done | with_reducible rfl
  (try simp only [Act.put, List.setIfInBounds_toArray, List.set_cons_zero, List.set_cons_succ, List.nil_append, List.cons_append])
  refine chain_is (step_take (by rfl) ?yq7n11) ?rq7n11
  case yq7n11 =>
    intro w hbw hd
    clear hd
    go_simp
    first | done | with_reducible rfl
  (try simp only [Act.put, List.setIfInBounds_toArray, List.set_cons_zero, List.set_cons_succ, List.nil_append, List.cons_append])
  refine chain_is (step_take (by rfl) ?yq7n12) ?rq7n12
  case yq7n12 =>
    intro w hbw hd
    clear hd
    go_simp
    first | done | with_reducible rfl
  (try simp only [Act.put, List.setIfInBounds_toArray, List.set_cons_zero, List.set_cons_succ, List.nil_append, List.cons_append])
  refine chain_is (step_take (by rfl) ?yq7n13) ?rq7n13
  case yq7n13 =>
    intro w hbw hd
    have r0 : w.cell? ⟨x16.heap.size, 0, none⟩ = some (.slice D1 2 d1) := cell_keep hbw qd0 zd
    have r1 : w.cell? ⟨x16.heap.size, 1, none⟩ = some (.slice D2 1 d2) := cell_keep hbw qd1 zd
    have r2 : w.cell? ⟨x16.heap.size, 2, none⟩ = some (.slice D3 8 d3) := cell_keep hbw qd2 zd
    clear hd
    go_simp
    first | done | with_reducible rfl
  (try simp only [Act.put, List.setIfInBounds_toArray, List.set_cons_zero, List.set_cons_succ, List.nil_append, List.cons_append])
  refine chain_has ?sq7n14 (fun vq7n14 => ?rq7n14)
  case sq7n14 =>
    intro w hbw hd K Q' hK
    clear hd
    go_simp
    refine hK.out (.slice (some ⟨w.heap.size, 0, none⟩) 2 2) _ _ ?_ ?_ ?_
    · (simp only [Act.put, List.setIfInBounds_toArray, List.set_cons_zero, List.set_cons_succ, List.nil_append, List.cons_append])
    · exact (by repeat' (first | with_reducible exact Below.refl _ _ | with_reducible assumption | with_reducible apply Below.drew | with_reducible apply below_drewN | with_reducible apply Below.alloc | with_reducible apply Below.setCell | (with_reducible refine Below.trans ?_ (Below.mono (by assumption) ?_)) | (simp; done) | (simp; omega) | omega | with_reducible apply le_size_alloc | with_reducible apply le_size_drewN | with_reducible apply le_size_drew | with_reducible apply le_size_setCell | with_reducible refine Nat.le_trans ?_ (Below.size (by assumption))))
    · exact ⟨_, rfl, Blk.new_ rfl rfl⟩
  (try simp only [Act.put, List.setIfInBounds_toArray, List.set_cons_zero, List.set_cons_succ, List.nil_append, List.cons_append])
  refine chain_has ?sq7n15 (fun vq7n15 => ?rq7n15)
  case sq7n15 =>
    intro w hbw hd K Q' hK
    clear hd
    go_simp
    refine hK.out (.slice (some ⟨w.heap.size, 0, none⟩) 1 1) _ _ ?_ ?_ ?_
    · (simp only [Act.put, List.setIfInBounds_toArray, List.set_cons_zero, List.set_cons_succ, List.nil_append, List.cons_append])
    · exact (by repeat' (first | with_reducible exact Below.refl _ _ | with_reducible assumption | with_reducible apply Below.drew | with_reducible apply below_drewN | with_reducible apply Below.alloc | with_reducible apply Below.setCell | (with_reducible refine Below.trans ?_ (Below.mono (by assumption) ?_)) | (simp; done) | (simp; omega) | omega | with_reducible apply le_size_alloc | with_reducible apply le_size_drewN | with_reducible apply le_size_drew | with_reducible apply le_size_setCell | with_reducible refine Nat.le_trans ?_ (Below.size (by assumption))))
    · exact ⟨_, rfl, Blk.new_ rfl rfl⟩
  (try simp only [Act.put, List.setIfInBounds_toArray, List.set_cons_zero, List.set_cons_succ, List.nil_append, List.cons_append])
  refine chain_has ?sq7n16 (fun vq7n16 => ?rq7n16)
  case sq7n16 =>
    intro w hbw hd K Q' hK
    obtain ⟨g0, rfl, k0⟩ : LitS 3 2 [.int .i64 1, .int .i64 3] _ w := hd 14 _ _ (by rfl) rfl rfl
    obtain ⟨g1, rfl, k1⟩ : LitS 3 1 [.int .i64 2] _ w := hd 15 _ _ (by rfl) rfl rfl
    clear hd
    go_simp
    refine (lists_none (some ⟨g0, 0, none⟩) (some ⟨g1, 0, none⟩) 2 2 1 1 0 _).mono ?_
    rintro e x ⟨g, rfl, s, hx⟩
    go_wp2_with fail
    refine hK.out (.agg #[.slice (some ⟨g0, 0, none⟩) 2 2, .slice (some ⟨g1, 0, none⟩) 1 1, .slice (some ⟨g, 0, none⟩) 8 8]) _ _ ?_ ?_ ?_
    · (simp only [Act.put, List.setIfInBounds_toArray, List.set_cons_zero, List.set_cons_succ, List.nil_append, List.cons_append])
    · exact (by repeat' (first | with_reducible exact Below.refl _ _ | with_reducible assumption | with_reducible apply Below.drew | with_reducible apply below_drewN | with_reducible apply Below.alloc | with_reducible apply Below.setCell | (with_reducible refine Below.trans ?_ (Below.mono (by assumption) ?_)) | (simp; done) | (simp; omega) | omega | with_reducible apply le_size_alloc | with_reducible apply le_size_drewN | with_reducible apply le_size_drew | with_reducible apply le_size_setCell | with_reducible refine Nat.le_trans ?_ (Below.size (by assumption))))
    · exact ⟨_, _, _, rfl, inMem_lit (Sl.of_lit (t := 3) (xs := [1, 3]) (k0.below_ hx k0.lt)) (Sl.of_lit (t := 3) (xs := [2]) (k1.below_ hx k1.lt)) s (by simp) (by simp) (by simp) (by simp) (by simp)⟩
  (try simp only [Act.put, List.setIfInBounds_toArray, List.set_cons_zero, List.set_cons_succ, List.nil_append, List.cons_append])
  refine chain_is (step_take (by rfl) ?yq7n17) ?rq7n17
  case yq7n17 =>
    intro w hbw hd
    clear hd
    go_simp
    first | done | with_reducible rfl
  (try simp only [Act.put, List.setIfInBounds_toArray, List.set_cons_zero, List.set_cons_succ, List.nil_append, List.cons_append])
  refine chain_is ?sq7n18 ?rq7n18
  case sq7n18 =>
    intro w hbw hd K Q' hK
    obtain ⟨Q1, Q2, g, rfl, hm⟩ : LisS 2 1 [1, 3] [2] [false, false, false, false, false, false, false, false] _ w := hd 16 _ _ (by rfl) rfl rfl
    clear hd
    go_simp
    refine (is_lit D1 D2 D3 Q1 Q2 (some ⟨g, 0, none⟩) d1 d2 d3 2 1 8 2 1 [1, 3] [2] [false, false, false, false, false, false, false, false] _ rfl rfl rfl (Md_20.out.ext hbw) hm (by omega) (by omega)).mono ?_
    rintro e x ⟨rfl, hx⟩
    go_wp2_with fail
    refine hK.out (.bool true) _ _ ?_ ?_ rfl
    · (simp only [Act.put, List.setIfInBounds_toArray, List.set_cons_zero, List.set_cons_succ, List.nil_append, List.cons_append])
    · exact (by repeat' (first | with_reducible exact Below.refl _ _ | with_reducible assumption | with_reducible apply Below.drew | with_reducible apply below_drewN | with_reducible apply Below.alloc | with_reducible apply Below.setCell | (with_reducible refine Below.trans ?_ (Below.mono (by assumption) ?_)) | (simp; done) | (simp; omega) | omega | with_reducible apply le_size_alloc | with_reducible apply le_size_drewN | with_reducible apply le_size_drew | with_reducible apply le_size_setCell | with_reducible refine Nat.le_trans ?_ (Below.size (by assumption))))
  (try simp only [Act.put, List.setIfInBounds_toArray, List.set_cons_zero, List.set_cons_succ, List.nil_append, List.cons_append])
  refine chain_is (step_take (by rfl) ?yq7n19) ?rq7n19
  case yq7n19 =>
    intro w hbw hd
    clear hd
    go_simp
    first | done | with_reducible rfl
  (try simp only [Act.put, List.setIfInBounds_toArray, List.set_cons_zero, List.set_cons_succ, List.nil_append, List.cons_append])
  refine chain_is (step_take (by rfl) ?yq7n20) ?rq7n20
  case yq7n20 =>
    intro w hbw hd
    clear hd
    go_simp
    first | done | with_reducible rfl
  (try simp only [Act.put, List.setIfInBounds_toArray, List.set_cons_zero, List.set_cons_succ, List.nil_append, List.cons_append])
  refine chain_end (fun wz hbz hd => ?_)
  clear hd
  have bw22 : Below W0.heap.size W0 wz := (by repeat' (first | with_reducible exact Below.refl _ _ | with_reducible assumption | with_reducible apply Below.drew | with_reducible apply below_drewN | with_reducible apply Below.alloc | with_reducible apply Below.setCell | (with_reducible refine Below.trans ?_ (Below.mono (by assumption) ?_)) | (simp; done) | (simp; omega) | omega | with_reducible apply le_size_alloc | with_reducible apply le_size_drewN | with_reducible apply le_size_drew | with_reducible apply le_size_setCell | with_reducible refine Nat.le_trans ?_ (Below.size (by assumption))))
  have HB_22 : Hid (Below w.heap.size w wz) := HB_20.out.trans (bw22.mono HB_20.out.size)
  have Mc_22 : Hid (InMem wz C1 C2 C3 [3] [2, 1] [false, true, false, false, false, false, false, false]) := Mc_20.out.ext bw22
  have c_22 : Hid (Blk wz x12.heap.size 25 #[.slice C1 1 c1, .slice C2 2 c2, .slice C3 8 c3]) := c_20.out.below_ bw22 c_20.out.lt
  have Md_22 : Hid (InMem wz D1 D2 D3 [1, 3] [2] [false, false, false, false, false, false, false, false]) := Md_20.out.ext bw22
  have d_22 : Hid (Blk wz x16.heap.size 25 #[.slice D1 2 d1, .slice D2 1 d2, .slice D3 8 d3]) := d_20.out.below_ bw22 d_20.out.lt
  clear bw22 hbz HB_20 Mc_20 c_20 Md_20 d_20
  clear hz0 bw20 hb0 HB_19 Mc_19 c_19 Md_19 hkV18 qc0 qc1 qc2 zc qd0 qd1 qd2 zd
  obtain ⟨x21, rfl⟩ : ∃ x21 : World, x21 = wz := ⟨_, rfl⟩
  clear Mc_22
  clear c_22
  have kd0 : x21.cell? ⟨x16.heap.size, 0, none⟩ = some (.slice D1 2 d1) := (d_22.out.cell_ 0).trans (by simp)
  have kd1 : x21.cell? ⟨x16.heap.size, 1, none⟩ = some (.slice D2 1 d2) := (d_22.out.cell_ 1).trans (by simp)
  have kd2 : x21.cell? ⟨x16.heap.size, 2, none⟩ = some (.slice D3 8 d3) := (d_22.out.cell_ 2).trans (by simp)
  go_wp2_with fail
  have Vl1 : Hid (lastV [1, 3] [2] [false, false, false, false, false, false, false, false] = (2, 0)) := by show _ = _; kernel_rfl
  refine (Last_S _ _ _ _ _ _ [1, 3] [2] [false, false, false, false, false, false, false, false] _ Md_22.out).mono ?_
  rw [Vl1.out]
  rintro e x23 ⟨rfl, hx23⟩
  clear kd0 kd1 kd2
  have bw24 : Below x21.heap.size x21 x23 := (by repeat' (first | with_reducible exact Below.refl _ _ | with_reducible assumption | with_reducible apply Below.drew | with_reducible apply below_drewN | with_reducible apply Below.alloc | with_reducible apply Below.setCell | (with_reducible refine Below.trans ?_ (Below.mono (by assumption) ?_)) | (simp; done) | (simp; omega) | omega | with_reducible apply le_size_alloc | with_reducible apply le_size_drewN | with_reducible apply le_size_drew | with_reducible apply le_size_setCell | with_reducible refine Nat.le_trans ?_ (Below.size (by assumption))))
  have HB_24 : Hid (Below w.heap.size w x23) := HB_22.out.trans (bw24.mono HB_22.out.size)
  have Md_24 : Hid (InMem x23 D1 D2 D3 [1, 3] [2] [false, false, false, false, false, false, false, false]) := Md_22.out.ext bw24
  have d_24 : Hid (Blk x23 x16.heap.size 25 #[.slice D1 2 d1, .slice D2 1 d2, .slice D3 8 d3]) := d_22.out.below_ bw24 d_22.out.lt
  clear bw24 hx23 HB_22 Md_22 d_22
  dsimp only
  clear Vl1
  have kd0 : x23.cell? ⟨x16.heap.size, 0, none⟩ = some (.slice D1 2 d1) := (d_24.out.cell_ 0).trans (by simp)
  have kd1 : x23.cell? ⟨x16.heap.size, 1, none⟩ = some (.slice D2 1 d2) := (d_24.out.cell_ 1).trans (by simp)
  have kd2 : x23.cell? ⟨x16.heap.size, 2, none⟩ = some (.slice D3 8 d3) := (d_24.out.cell_ 2).trans (by simp)
  go_wp2_with fail
  have Q0 : Hid (lruChd [1, 3] [2] [false, false, false, false, false, false, false, false] 2 = 0) := by show _ = _; kernel_rfl
  have P0 : Hid ((if lruChd [1, 3] [2] [false, false, false, false, false, false, false, false] 2 ≠ 0 then 0 else fWhere [1, 3] [2] 2) = 2) := by show _ = _; decide
  refine (Where_S _ _ _ _ _ _ [1, 3] [2] [false, false, false, false, false, false, false, false] _ Md_24.out 2).mono ?_
  rw [P0.out, Q0.out]
  rintro e x25 ⟨rfl, hx25⟩
  clear kd0 kd1 kd2
  have bw26 : Below x23.heap.size x23 x25 := (by repeat' (first | with_reducible exact Below.refl _ _ | with_reducible assumption | with_reducible apply Below.drew | with_reducible apply below_drewN | with_reducible apply Below.alloc | with_reducible apply Below.setCell | (with_reducible refine Below.trans ?_ (Below.mono (by assumption) ?_)) | (simp; done) | (simp; omega) | omega | with_reducible apply le_size_alloc | with_reducible apply le_size_drewN | with_reducible apply le_size_drew | with_reducible apply le_size_setCell | with_reducible refine Nat.le_trans ?_ (Below.size (by assumption))))
  have HB_26 : Hid (Below w.heap.size w x25) := HB_24.out.trans (bw26.mono HB_24.out.size)
  have Md_26 : Hid (InMem x25 D1 D2 D3 [1, 3] [2] [false, false, false, false, false, false, false, false]) := Md_24.out.ext bw26
  have d_26 : Hid (Blk x25 x16.heap.size 25 #[.slice D1 2 d1, .slice D2 1 d2, .slice D3 8 d3]) := d_24.out.below_ bw26 d_24.out.lt
  clear bw26 hx25 HB_24 Md_24 d_24
  clear P0 Q0
  have kd0 : x25.cell? ⟨x16.heap.size, 0, none⟩ = some (.slice D1 2 d1) := (d_26.out.cell_ 0).trans (by simp)
  have kd1 : x25.cell? ⟨x16.heap.size, 1, none⟩ = some (.slice D2 1 d2) := (d_26.out.cell_ 1).trans (by simp)
  have kd2 : x25.cell? ⟨x16.heap.size, 2, none⟩ = some (.slice D3 8 d3) := (d_26.out.cell_ 2).trans (by simp)
  go_wp2_with fail
  have Q1 : Hid (lruChd [1, 3] [2] [false, false, false, false, false, false, false, false] 3 = 0) := by show _ = _; kernel_rfl
  have P1 : Hid ((if lruChd [1, 3] [2] [false, false, false, false, false, false, false, false] 3 ≠ 0 then 0 else fWhere [1, 3] [2] 3) = 1) := by show _ = _; decide
  refine (Where_S _ _ _ _ _ _ [1, 3] [2] [false, false, false, false, false, false, false, false] _ Md_26.out 3).mono ?_
  rw [P1.out, Q1.out]
  rintro e x27 ⟨rfl, hx27⟩
  clear kd0 kd1 kd2
  have bw28 : Below x25.heap.size x25 x27 := (by repeat' (first | with_reducible exact Below.refl _ _ | with_reducible assumption | with_reducible apply Below.drew | with_reducible apply below_drewN | with_reducible apply Below.alloc | with_reducible apply Below.setCell | (with_reducible refine Below.trans ?_ (Below.mono (by assumption) ?_)) | (simp; done) | (simp; omega) | omega | with_reducible apply le_size_alloc | with_reducible apply le_size_drewN | with_reducible apply le_size_drew | with_reducible apply le_size_setCell | with_reducible refine Nat.le_trans ?_ (Below.size (by assumption))))
  have HB_28 : Hid (Below w.heap.size w x27) := HB_26.out.trans (bw28.mono HB_26.out.size)
  have Md_28 : Hid (InMem x27 D1 D2 D3 [1, 3] [2] [false, false, false, false, false, false, false, false]) := Md_26.out.ext bw28
  have d_28 : Hid (Blk x27 x16.heap.size 25 #[.slice D1 2 d1, .slice D2 1 d2, .slice D3 8 d3]) := d_26.out.below_ bw28 d_26.out.lt
  clear bw28 hx27 HB_26 Md_26 d_26
  clear P1 Q1
  have kd0 : x27.cell? ⟨x16.heap.size, 0, none⟩ = some (.slice D1 2 d1) := (d_28.out.cell_ 0).trans (by simp)
  have kd1 : x27.cell? ⟨x16.heap.size, 1, none⟩ = some (.slice D2 1 d2) := (d_28.out.cell_ 1).trans (by simp)
  have kd2 : x27.cell? ⟨x16.heap.size, 2, none⟩ = some (.slice D3 8 d3) := (d_28.out.cell_ 2).trans (by simp)
  go_wp2_with fail
  have Q2 : Hid (lruChd [1, 3] [2] [false, false, false, false, false, false, false, false] 5 = 0) := by show _ = _; kernel_rfl
  have P2 : Hid ((if lruChd [1, 3] [2] [false, false, false, false, false, false, false, false] 5 ≠ 0 then 0 else fWhere [1, 3] [2] 5) = 0) := by show _ = _; decide
  refine (Where_S _ _ _ _ _ _ [1, 3] [2] [false, false, false, false, false, false, false, false] _ Md_28.out 5).mono ?_
  rw [P2.out, Q2.out]
  rintro e x29 ⟨rfl, hx29⟩
  clear kd0 kd1 kd2
  have bw30 : Below x27.heap.size x27 x29 := (by repeat' (first | with_reducible exact Below.refl _ _ | with_reducible assumption | with_reducible apply Below.drew | with_reducible apply below_drewN | with_reducible apply Below.alloc | with_reducible apply Below.setCell | (with_reducible refine Below.trans ?_ (Below.mono (by assumption) ?_)) | (simp; done) | (simp; omega) | omega | with_reducible apply le_size_alloc | with_reducible apply le_size_drewN | with_reducible apply le_size_drew | with_reducible apply le_size_setCell | with_reducible refine Nat.le_trans ?_ (Below.size (by assumption))))
  have HB_30 : Hid (Below w.heap.size w x29) := HB_28.out.trans (bw30.mono HB_28.out.size)
  have Md_30 : Hid (InMem x29 D1 D2 D3 [1, 3] [2] [false, false, false, false, false, false, false, false]) := Md_28.out.ext bw30
  have d_30 : Hid (Blk x29 x16.heap.size 25 #[.slice D1 2 d1, .slice D2 1 d2, .slice D3 8 d3]) := d_28.out.below_ bw30 d_28.out.lt
  clear bw30 hx29 HB_28 Md_28 d_28
  clear P2 Q2
  have kd0 : x29.cell? ⟨x16.heap.size, 0, none⟩ = some (.slice D1 2 d1) := (d_30.out.cell_ 0).trans (by simp)
  have kd1 : x29.cell? ⟨x16.heap.size, 1, none⟩ = some (.slice D2 1 d2) := (d_30.out.cell_ 1).trans (by simp)
  have kd2 : x29.cell? ⟨x16.heap.size, 2, none⟩ = some (.slice D3 8 d3) := (d_30.out.cell_ 2).trans (by simp)
  go_wp2_with fail
  have Q3 : Hid (lruChd [1, 3] [2] [false, false, false, false, false, false, false, false] 8 = 2) := by show _ = _; kernel_rfl
  have P3 : Hid ((if lruChd [1, 3] [2] [false, false, false, false, false, false, false, false] 8 ≠ 0 then 0 else fWhere [1, 3] [2] 8) = 0) := by show _ = _; decide
  refine (Where_S _ _ _ _ _ _ [1, 3] [2] [false, false, false, false, false, false, false, false] _ Md_30.out 8).mono ?_
  rw [P3.out, Q3.out]
  rintro e x31 ⟨rfl, hx31⟩
  clear kd0 kd1 kd2
  have bw32 : Below x29.heap.size x29 x31 := (by repeat' (first | with_reducible exact Below.refl _ _ | with_reducible assumption | with_reducible apply Below.drew | with_reducible apply below_drewN | with_reducible apply Below.alloc | with_reducible apply Below.setCell | (with_reducible refine Below.trans ?_ (Below.mono (by assumption) ?_)) | (simp; done) | (simp; omega) | omega | with_reducible apply le_size_alloc | with_reducible apply le_size_drewN | with_reducible apply le_size_drew | with_reducible apply le_size_setCell | with_reducible refine Nat.le_trans ?_ (Below.size (by assumption))))
  have HB_32 : Hid (Below w.heap.size w x31) := HB_30.out.trans (bw32.mono HB_30.out.size)
  have Md_32 : Hid (InMem x31 D1 D2 D3 [1, 3] [2] [false, false, false, false, false, false, false, false]) := Md_30.out.ext bw32
  have d_32 : Hid (Blk x31 x16.heap.size 25 #[.slice D1 2 d1, .slice D2 1 d2, .slice D3 8 d3]) := d_30.out.below_ bw32 d_30.out.lt
  clear bw32 hx31 HB_30 Md_30 d_30
  clear P3 Q3
  have kd0 : x31.cell? ⟨x16.heap.size, 0, none⟩ = some (.slice D1 2 d1) := (d_32.out.cell_ 0).trans (by simp)
  have kd1 : x31.cell? ⟨x16.heap.size, 1, none⟩ = some (.slice D2 1 d2) := (d_32.out.cell_ 1).trans (by simp)
  have kd2 : x31.cell? ⟨x16.heap.size, 2, none⟩ = some (.slice D3 8 d3) := (d_32.out.cell_ 2).trans (by simp)
  go_wp2_with fail
  have Hu : Hid (remS [1, 3] [2] [false, false, false, false, false, false, false, false] 2 = ⟨[1, 3], ([] : List Int), [false, false, false, false, false, false, false, false], 0⟩) := by show _ = _; kernel_rfl
  refine (Remove_S _ _ _ _ _ _ [1, 3] [2] [false, false, false, false, false, false, false, false] _ Md_32.out 2).mono ?_
  unfold LPost
  rw [Hu.out]
  rintro e x33 ⟨U1, u1, U2, u2, U3, u3, rfl, mu, tu, hx33⟩
  clear kd0 kd1 kd2
  have bw34 : Below x31.heap.size x31 x33 := (by repeat' (first | with_reducible exact Below.refl _ _ | with_reducible assumption | with_reducible apply Below.drew | with_reducible apply below_drewN | with_reducible apply Below.alloc | with_reducible apply Below.setCell | (with_reducible refine Below.trans ?_ (Below.mono (by assumption) ?_)) | (simp; done) | (simp; omega) | omega | with_reducible apply le_size_alloc | with_reducible apply le_size_drewN | with_reducible apply le_size_drew | with_reducible apply le_size_setCell | with_reducible refine Nat.le_trans ?_ (Below.size (by assumption))))
  have HB_34 : Hid (Below w.heap.size w x33) := HB_32.out.trans (bw34.mono HB_32.out.size)
  have Md_34 : Hid (InMem x33 D1 D2 D3 [1, 3] [2] [false, false, false, false, false, false, false, false]) := Md_32.out.ext bw34
  have d_34 : Hid (Blk x33 x16.heap.size 25 #[.slice D1 2 d1, .slice D2 1 d2, .slice D3 8 d3]) := d_32.out.below_ bw34 d_32.out.lt
  clear bw34 hx33 HB_32 Md_32 d_32
  dsimp only at mu ⊢
  simp only [List.length_cons, List.length_nil, Nat.reduceAdd]
  have Mu := Lib.hid mu
  clear mu tu Hu
  go_wp2_with fail
  obtain ⟨V35, hV35⟩ : ∃ V, x33.alloc (.cells #[.slice U1 2 u1, .slice U2 0 u2, .slice U3 8 u3] 25) = V := ⟨_, rfl⟩
  have hbV35 : Below x33.heap.size x33 V35 := by rw [← hV35]; exact (by repeat' (first | with_reducible exact Below.refl _ _ | with_reducible assumption | with_reducible apply Below.drew | with_reducible apply below_drewN | with_reducible apply Below.alloc | with_reducible apply Below.setCell | (with_reducible refine Below.trans ?_ (Below.mono (by assumption) ?_)) | (simp; done) | (simp; omega) | omega | with_reducible apply le_size_alloc | with_reducible apply le_size_drewN | with_reducible apply le_size_drew | with_reducible apply le_size_setCell | with_reducible refine Nat.le_trans ?_ (Below.size (by assumption))))
  have hkV35 : Hid (Blk V35 x33.heap.size 25 #[.slice U1 2 u1, .slice U2 0 u2, .slice U3 8 u3]) := by show Blk _ _ _ _; rw [← hV35]; exact Blk.new_ rfl rfl
  rw [hV35]
  clear hV35
  have bw36 : Below x33.heap.size x33 V35 := (by repeat' (first | with_reducible exact Below.refl _ _ | with_reducible assumption | with_reducible apply Below.drew | with_reducible apply below_drewN | with_reducible apply Below.alloc | with_reducible apply Below.setCell | (with_reducible refine Below.trans ?_ (Below.mono (by assumption) ?_)) | (simp; done) | (simp; omega) | omega | with_reducible apply le_size_alloc | with_reducible apply le_size_drewN | with_reducible apply le_size_drew | with_reducible apply le_size_setCell | with_reducible refine Nat.le_trans ?_ (Below.size (by assumption))))
  have HB_36 : Hid (Below w.heap.size w V35) := HB_34.out.trans (bw36.mono HB_34.out.size)
  have Md_36 : Hid (InMem V35 D1 D2 D3 [1, 3] [2] [false, false, false, false, false, false, false, false]) := Md_34.out.ext bw36
  have d_36 : Hid (Blk V35 x16.heap.size 25 #[.slice D1 2 d1, .slice D2 1 d2, .slice D3 8 d3]) := d_34.out.below_ bw36 d_34.out.lt
  have Mu_36 : Hid (InMem V35 U1 U2 U3 [1, 3] ([] : List Int) [false, false, false, false, false, false, false, false]) := Mu.out.ext bw36
  clear bw36 hbV35 HB_34 Md_34 d_34 Mu
  have ku0 : V35.cell? ⟨x33.heap.size, 0, none⟩ = some (.slice U1 2 u1) := (hkV35.out.cell_ 0).trans (by simp)
  have ku1 : V35.cell? ⟨x33.heap.size, 1, none⟩ = some (.slice U2 0 u2) := (hkV35.out.cell_ 1).trans (by simp)
  have ku2 : V35.cell? ⟨x33.heap.size, 2, none⟩ = some (.slice U3 8 u3) := (hkV35.out.cell_ 2).trans (by simp)
  go_wp2_with fail
  have Vl2 : Hid (lastV [1, 3] ([] : List Int) [false, false, false, false, false, false, false, false] = (3, 0)) := by show _ = _; kernel_rfl
  refine (Last_S _ _ _ _ _ _ [1, 3] ([] : List Int) [false, false, false, false, false, false, false, false] _ Mu_36.out).mono ?_
  rw [Vl2.out]
  rintro e x37 ⟨rfl, hx37⟩
  clear ku0 ku1 ku2
  have bw38 : Below V35.heap.size V35 x37 := (by repeat' (first | with_reducible exact Below.refl _ _ | with_reducible assumption | with_reducible apply Below.drew | with_reducible apply below_drewN | with_reducible apply Below.alloc | with_reducible apply Below.setCell | (with_reducible refine Below.trans ?_ (Below.mono (by assumption) ?_)) | (simp; done) | (simp; omega) | omega | with_reducible apply le_size_alloc | with_reducible apply le_size_drewN | with_reducible apply le_size_drew | with_reducible apply le_size_setCell | with_reducible refine Nat.le_trans ?_ (Below.size (by assumption))))
  have HB_38 : Hid (Below w.heap.size w x37) := HB_36.out.trans (bw38.mono HB_36.out.size)
  have Md_38 : Hid (InMem x37 D1 D2 D3 [1, 3] [2] [false, false, false, false, false, false, false, false]) := Md_36.out.ext bw38
  have d_38 : Hid (Blk x37 x16.heap.size 25 #[.slice D1 2 d1, .slice D2 1 d2, .slice D3 8 d3]) := d_36.out.below_ bw38 d_36.out.lt
  have Mu_38 : Hid (InMem x37 U1 U2 U3 [1, 3] ([] : List Int) [false, false, false, false, false, false, false, false]) := Mu_36.out.ext bw38
  have u_38 : Hid (Blk x37 x33.heap.size 25 #[.slice U1 2 u1, .slice U2 0 u2, .slice U3 8 u3]) := hkV35.out.below_ bw38 hkV35.out.lt
  clear bw38 hx37 HB_36 Md_36 d_36 Mu_36 hkV35
  dsimp only
  clear Vl2
  have kd0 : x37.cell? ⟨x16.heap.size, 0, none⟩ = some (.slice D1 2 d1) := (d_38.out.cell_ 0).trans (by simp)
  have kd1 : x37.cell? ⟨x16.heap.size, 1, none⟩ = some (.slice D2 1 d2) := (d_38.out.cell_ 1).trans (by simp)
  have kd2 : x37.cell? ⟨x16.heap.size, 2, none⟩ = some (.slice D3 8 d3) := (d_38.out.cell_ 2).trans (by simp)
  go_wp2_with fail
  have Hn1 : Hid (remS [1, 3] [2] [false, false, false, false, false, false, false, false] 5 = LR.bad 6) := by show _ = _; kernel_rfl
  refine (Remove_S _ _ _ _ _ _ [1, 3] [2] [false, false, false, false, false, false, false, false] _ Md_38.out 5).mono ?_
  unfold LPost
  rw [Hn1.out]
  rintro e x39 ⟨O1, o1, O2, o2, O3, o3, rfl, _, _, hx39⟩
  clear kd0 kd1 kd2
  have bw40 : Below x37.heap.size x37 x39 := (by repeat' (first | with_reducible exact Below.refl _ _ | with_reducible assumption | with_reducible apply Below.drew | with_reducible apply below_drewN | with_reducible apply Below.alloc | with_reducible apply Below.setCell | (with_reducible refine Below.trans ?_ (Below.mono (by assumption) ?_)) | (simp; done) | (simp; omega) | omega | with_reducible apply le_size_alloc | with_reducible apply le_size_drewN | with_reducible apply le_size_drew | with_reducible apply le_size_setCell | with_reducible refine Nat.le_trans ?_ (Below.size (by assumption))))
  have HB_40 : Hid (Below w.heap.size w x39) := HB_38.out.trans (bw40.mono HB_38.out.size)
  have Md_40 : Hid (InMem x39 D1 D2 D3 [1, 3] [2] [false, false, false, false, false, false, false, false]) := Md_38.out.ext bw40
  have d_40 : Hid (Blk x39 x16.heap.size 25 #[.slice D1 2 d1, .slice D2 1 d2, .slice D3 8 d3]) := d_38.out.below_ bw40 d_38.out.lt
  have Mu_40 : Hid (InMem x39 U1 U2 U3 [1, 3] ([] : List Int) [false, false, false, false, false, false, false, false]) := Mu_38.out.ext bw40
  have u_40 : Hid (Blk x39 x33.heap.size 25 #[.slice U1 2 u1, .slice U2 0 u2, .slice U3 8 u3]) := u_38.out.below_ bw40 u_38.out.lt
  clear bw40 hx39 HB_38 Md_38 d_38 Mu_38 u_38
  dsimp only [LR.bad]
  simp only [List.length_nil]
  clear Hn1
  have kd0 : x39.cell? ⟨x16.heap.size, 0, none⟩ = some (.slice D1 2 d1) := (d_40.out.cell_ 0).trans (by simp)
  have kd1 : x39.cell? ⟨x16.heap.size, 1, none⟩ = some (.slice D2 1 d2) := (d_40.out.cell_ 1).trans (by simp)
  have kd2 : x39.cell? ⟨x16.heap.size, 2, none⟩ = some (.slice D3 8 d3) := (d_40.out.cell_ 2).trans (by simp)
  go_wp2_with fail
  have Hn2 : Hid (addS [1, 3] [2] [false, false, false, false, false, false, false, false] 3 = LR.bad 7) := by show _ = _; kernel_rfl
  refine (Add_S _ _ _ _ _ _ [1, 3] [2] [false, false, false, false, false, false, false, false] _ Md_40.out 3).mono ?_
  unfold LPost
  rw [Hn2.out]
  rintro e x41 ⟨O1, o1, O2, o2, O3, o3, rfl, _, _, hx41⟩
  clear kd0 kd1 kd2
  have bw42 : Below x39.heap.size x39 x41 := (by repeat' (first | with_reducible exact Below.refl _ _ | with_reducible assumption | with_reducible apply Below.drew | with_reducible apply below_drewN | with_reducible apply Below.alloc | with_reducible apply Below.setCell | (with_reducible refine Below.trans ?_ (Below.mono (by assumption) ?_)) | (simp; done) | (simp; omega) | omega | with_reducible apply le_size_alloc | with_reducible apply le_size_drewN | with_reducible apply le_size_drew | with_reducible apply le_size_setCell | with_reducible refine Nat.le_trans ?_ (Below.size (by assumption))))
  have HB_42 : Hid (Below w.heap.size w x41) := HB_40.out.trans (bw42.mono HB_40.out.size)
  have Md_42 : Hid (InMem x41 D1 D2 D3 [1, 3] [2] [false, false, false, false, false, false, false, false]) := Md_40.out.ext bw42
  have d_42 : Hid (Blk x41 x16.heap.size 25 #[.slice D1 2 d1, .slice D2 1 d2, .slice D3 8 d3]) := d_40.out.below_ bw42 d_40.out.lt
  have Mu_42 : Hid (InMem x41 U1 U2 U3 [1, 3] ([] : List Int) [false, false, false, false, false, false, false, false]) := Mu_40.out.ext bw42
  have u_42 : Hid (Blk x41 x33.heap.size 25 #[.slice U1 2 u1, .slice U2 0 u2, .slice U3 8 u3]) := u_40.out.below_ bw42 u_40.out.lt
  clear bw42 hx41 HB_40 Md_40 d_40 Mu_40 u_40
  dsimp only [LR.bad]
  simp only [List.length_nil]
  clear Hn2
  clear Md_42
  clear d_42
  go_wp2_with fail
  refine (lists_none _ _ 2 2 2 2 0 _).mono ?_
  rintro e y1 ⟨gy, rfl, sy, hy1⟩
  have SY : Hid (Sl y1 .bool (some ⟨gy, 0, none⟩) [false, false, false, false, false, false, false, false]) := sy
  clear sy
  go_wp2_with fail
  have Vo : Hid (ordL [3, 2] [1, 0] [false, false, false, false, false, false, false, false] = [0, 1, 2, 3]) := by show _ = _; kernel_rfl
  have Wo : Hid (lruChk [3, 2] [1, 0] [false, false, false, false, false, false, false, false] = 0) := by show _ = _; kernel_rfl
  refine (Order_S _ _ _ 2 2 8 [3, 2] [1, 0] [false, false, false, false, false, false, false, false] _ (inMem_lit (Sl.of_lit (t := 3) (xs := [3, 2]) (by repeat' (first | with_reducible assumption | (with_reducible refine Blk.new_ ?_ ?_ <;> first | (simp; done) | rfl) | with_reducible apply Blk.drew_ | with_reducible apply Blk.drewN_ | with_reducible apply Blk.alloc_ | with_reducible refine Blk.far_ ?_ ?_ _ | (with_reducible refine Blk.below_ ?_ (by assumption) ?_) | (simp; done) | (simp; omega) | omega | with_reducible apply le_size_alloc | with_reducible apply lt_size_alloc | with_reducible apply le_size_drewN | with_reducible apply le_size_drew | with_reducible apply le_size_setCell | refine Nat.lt_of_lt_of_le ?_ (Below.size (by assumption)) | refine Nat.le_trans ?_ (Below.size (by assumption))))) (Sl.of_lit (t := 3) (xs := [1, 0]) (by repeat' (first | with_reducible assumption | (with_reducible refine Blk.new_ ?_ ?_ <;> first | (simp; done) | rfl) | with_reducible apply Blk.drew_ | with_reducible apply Blk.drewN_ | with_reducible apply Blk.alloc_ | with_reducible refine Blk.far_ ?_ ?_ _ | (with_reducible refine Blk.below_ ?_ (by assumption) ?_) | (simp; done) | (simp; omega) | omega | with_reducible apply le_size_alloc | with_reducible apply lt_size_alloc | with_reducible apply le_size_drewN | with_reducible apply le_size_drew | with_reducible apply le_size_setCell | refine Nat.lt_of_lt_of_le ?_ (Below.size (by assumption)) | refine Nat.le_trans ?_ (Below.size (by assumption))))) SY.out (by simp) (by simp) (by simp) (by simp) (by simp))).mono ?_
  rw [Vo.out, Wo.out]
  rintro e x43 ⟨Z1, zc, rfl, so, hx43⟩
  have bw44 : Below x41.heap.size x41 x43 := (by repeat' (first | with_reducible exact Below.refl _ _ | with_reducible assumption | with_reducible apply Below.drew | with_reducible apply below_drewN | with_reducible apply Below.alloc | with_reducible apply Below.setCell | (with_reducible refine Below.trans ?_ (Below.mono (by assumption) ?_)) | (simp; done) | (simp; omega) | omega | with_reducible apply le_size_alloc | with_reducible apply le_size_drewN | with_reducible apply le_size_drew | with_reducible apply le_size_setCell | with_reducible refine Nat.le_trans ?_ (Below.size (by assumption))))
  have HB_44 : Hid (Below w.heap.size w x43) := HB_42.out.trans (bw44.mono HB_42.out.size)
  have Mu_44 : Hid (InMem x43 U1 U2 U3 [1, 3] ([] : List Int) [false, false, false, false, false, false, false, false]) := Mu_42.out.ext bw44
  have u_44 : Hid (Blk x43 x33.heap.size 25 #[.slice U1 2 u1, .slice U2 0 u2, .slice U3 8 u3]) := u_42.out.below_ bw44 u_42.out.lt
  clear bw44 hx43 HB_42 Mu_42 u_42
  simp only [List.length_cons, List.length_nil, Nat.reduceAdd]
  have SO := Lib.hid so
  clear so hy1 SY Vo Wo
  go_wp2_with fail
  refine wp_region_chain [.is ?fq21n0, .has (LitS 3 2 [.int .i64 1, .int .i64 3]), .has (LisS 2 0 [1, 3] ([] : List Int) [false, false, false, false, false, false, false, false]), .is ?fq21n3, .is (.bool true), .is ?fq21n5, .is ?fq21n6, .is ?fq21n7, .is ?fq21n8, .is ?fq21n9, .is ?fq21n10, .is ?fq21n11, .is ?fq21n12, .is ?fq21n13, .is ?fq21n14, .is ?fq21n15, .is ?fq21n16, .is ?fq21n17, .is ?fq21n18, .is ?fq21n19, .is ?fq21n20, .is ?fq21n21, .is ?fq21n22, .is ?fq21n23, .has (LitS 3 4 [.int .i64 0, .int .i64 1, .int .i64 2, .int .i64 3]), .is (.bool true), .is ?fq21n26, .is ?fq21n27, .is ?fq21n28, .is ?fq21n29, .is ?fq21n30, .is ?fq21n31] (by kernel_rfl) (by kernel_rfl) (by kernel_rfl) (lasts_is (lasts_has (LitS.lasts 3 2 [.int .i64 1, .int .i64 3]) (lasts_has (LisS.lasts 2 0 [1, 3] ([] : List Int) [false, false, false, false, false, false, false, false]) (lasts_is (lasts_is (lasts_is (lasts_is (lasts_is (lasts_is (lasts_is (lasts_is (lasts_is (lasts_is (lasts_is (lasts_is (lasts_is (lasts_is (lasts_is (lasts_is (lasts_is (lasts_is (lasts_is (lasts_is (lasts_is (lasts_has (LitS.lasts 3 4 [.int .i64 0, .int .i64 1, .int .i64 2, .int .i64 3]) (lasts_is (lasts_is (lasts_is (lasts_is (lasts_is (lasts_is (lasts_is lasts_nil)))))))))))))))))))))))))))))))) (fun W0 hb0 hz0 => ?_)
  rotate_left 27
  have bw45 : Below x43.heap.size x43 W0 := (by repeat' (first | with_reducible exact Below.refl _ _ | with_reducible assumption | with_reducible apply Below.drew | with_reducible apply below_drewN | with_reducible apply Below.alloc | with_reducible apply Below.setCell | (with_reducible refine Below.trans ?_ (Below.mono (by assumption) ?_)) | (simp; done) | (simp; omega) | omega | with_reducible apply le_size_alloc | with_reducible apply le_size_drewN | with_reducible apply le_size_drew | with_reducible apply le_size_setCell | with_reducible refine Nat.le_trans ?_ (Below.size (by assumption))))
  have HB_45 : Hid (Below w.heap.size w W0) := HB_44.out.trans (bw45.mono HB_44.out.size)
  have Mu_45 : Hid (InMem W0 U1 U2 U3 [1, 3] ([] : List Int) [false, false, false, false, false, false, false, false]) := Mu_44.out.ext bw45
  have u_45 : Hid (Blk W0 x33.heap.size 25 #[.slice U1 2 u1, .slice U2 0 u2, .slice U3 8 u3]) := u_44.out.below_ bw45 u_44.out.lt
  have SO_45 : Hid (Sl W0 (.int .i64) Z1 [0, 1, 2, 3]) := SO.out.ext bw45
  have qu0 : W0.cell? ⟨x33.heap.size, 0, none⟩ = some (.slice U1 2 u1) := (u_45.out.cell_ 0).trans (by simp)
  have qu1 : W0.cell? ⟨x33.heap.size, 1, none⟩ = some (.slice U2 0 u2) := (u_45.out.cell_ 1).trans (by simp)
  have qu2 : W0.cell? ⟨x33.heap.size, 2, none⟩ = some (.slice U3 8 u3) := (u_45.out.cell_ 2).trans (by simp)
  have zu : x33.heap.size < W0.heap.size := u_45.out.lt
  refine chain_is (step_take (by rfl) ?yq21n0) ?rq21n0
  case yq21n0 =>
    intro w hbw hd
    have r0 : w.cell? ⟨x33.heap.size, 0, none⟩ = some (.slice U1 2 u1) := cell_keep hbw qu0 zu
    have r1 : w.cell? ⟨x33.heap.size, 1, none⟩ = some (.slice U2 0 u2) := cell_keep hbw qu1 zu
    have r2 : w.cell? ⟨x33.heap.size, 2, none⟩ = some (.slice U3 8 u3) := cell_keep hbw qu2 zu
    clear hd
    go_simp
    first | done | with_reducible rfl
  (try simp only [Act.put, List.setIfInBounds_toArray, List.set_cons_zero, List.set_cons_succ, List.nil_append, List.cons_append])
  refine chain_has ?sq21n1 (fun vq21n1 => ?rq21n1)
  case sq21n1 =>
    intro w hbw hd K Q' hK
    clear hd
    go_simp
    refine hK.out (.slice (some ⟨w.heap.size, 0, none⟩) 2 2) _ _ ?_ ?_ ?_
    · (simp only [Act.put, List.setIfInBounds_toArray, List.set_cons_zero, List.set_cons_succ, List.nil_append, List.cons_append])
    · exact (by repeat' (first | with_reducible exact Below.refl _ _ | with_reducible assumption | with_reducible apply Below.drew | with_reducible apply below_drewN | with_reducible apply Below.alloc | with_reducible apply Below.setCell | (with_reducible refine Below.trans ?_ (Below.mono (by assumption) ?_)) | (simp; done) | (simp; omega) | omega | with_reducible apply le_size_alloc | with_reducible apply le_size_drewN | with_reducible apply le_size_drew | with_reducible apply le_size_setCell | with_reducible refine Nat.le_trans ?_ (Below.size (by assumption))))
    · exact ⟨_, rfl, Blk.new_ rfl rfl⟩
  (try simp only [Act.put, List.setIfInBounds_toArray, List.set_cons_zero, List.set_cons_succ, List.nil_append, List.cons_append])
  refine chain_has ?sq21n2 (fun vq21n2 => ?rq21n2)
  case sq21n2 =>
    intro w hbw hd K Q' hK
    obtain ⟨g0, rfl, k0⟩ : LitS 3 2 [.int .i64 1, .int .i64 3] _ w := hd 1 _ _ (by rfl) rfl rfl
    clear hd
    go_simp
    refine (lists_none (some ⟨g0, 0, none⟩) none 2 2 0 0 0 _).mono ?_
    rintro e x ⟨g, rfl, s, hx⟩
    go_wp2_with fail
    refine hK.out (.agg #[.slice (some ⟨g0, 0, none⟩) 2 2, .slice none 0 0, .slice (some ⟨g, 0, none⟩) 8 8]) _ _ ?_ ?_ ?_
    · (simp only [Act.put, List.setIfInBounds_toArray, List.set_cons_zero, List.set_cons_succ, List.nil_append, List.cons_append])
    · exact (by repeat' (first | with_reducible exact Below.refl _ _ | with_reducible assumption | with_reducible apply Below.drew | with_reducible apply below_drewN | with_reducible apply Below.alloc | with_reducible apply Below.setCell | (with_reducible refine Below.trans ?_ (Below.mono (by assumption) ?_)) | (simp; done) | (simp; omega) | omega | with_reducible apply le_size_alloc | with_reducible apply le_size_drewN | with_reducible apply le_size_drew | with_reducible apply le_size_setCell | with_reducible refine Nat.le_trans ?_ (Below.size (by assumption))))
    · exact ⟨_, _, _, rfl, inMem_lit (Sl.of_lit (t := 3) (xs := [1, 3]) (k0.below_ hx k0.lt)) Sl.nil s (by simp) (by simp) (by simp) (by simp) (by simp)⟩
  (try simp only [Act.put, List.setIfInBounds_toArray, List.set_cons_zero, List.set_cons_succ, List.nil_append, List.cons_append])
  refine chain_is (step_take (by rfl) ?yq21n3) ?rq21n3
  case yq21n3 =>
    intro w hbw hd
    clear hd
    go_simp
    first | done | with_reducible rfl
  (try simp only [Act.put, List.setIfInBounds_toArray, List.set_cons_zero, List.set_cons_succ, List.nil_append, List.cons_append])
  refine chain_is ?sq21n4 ?rq21n4
  case sq21n4 =>
    intro w hbw hd K Q' hK
    obtain ⟨Q1, Q2, g, rfl, hm⟩ : LisS 2 0 [1, 3] ([] : List Int) [false, false, false, false, false, false, false, false] _ w := hd 2 _ _ (by rfl) rfl rfl
    clear hd
    go_simp
    refine (is_lit U1 U2 U3 Q1 Q2 (some ⟨g, 0, none⟩) u1 u2 u3 2 0 8 2 0 [1, 3] ([] : List Int) [false, false, false, false, false, false, false, false] _ rfl rfl rfl (Mu_45.out.ext hbw) hm (by omega) (by omega)).mono ?_
    rintro e x ⟨rfl, hx⟩
    go_wp2_with fail
    refine hK.out (.bool true) _ _ ?_ ?_ rfl
    · (simp only [Act.put, List.setIfInBounds_toArray, List.set_cons_zero, List.set_cons_succ, List.nil_append, List.cons_append])
    · exact (by repeat' (first | with_reducible exact Below.refl _ _ | with_reducible assumption | with_reducible apply Below.drew | with_reducible apply below_drewN | with_reducible apply Below.alloc | with_reducible apply Below.setCell | (with_reducible refine Below.trans ?_ (Below.mono (by assumption) ?_)) | (simp; done) | (simp; omega) | omega | with_reducible apply le_size_alloc | with_reducible apply le_size_drewN | with_reducible apply le_size_drew | with_reducible apply le_size_setCell | with_reducible refine Nat.le_trans ?_ (Below.size (by assumption))))
  (try simp only [Act.put, List.setIfInBounds_toArray, List.set_cons_zero, List.set_cons_succ, List.nil_append, List.cons_append])
  refine chain_is (step_take (by rfl) ?yq21n5) ?rq21n5
  case yq21n5 =>
    intro w hbw hd
    clear hd
    go_simp
    first | done | with_reducible rfl
  (try simp only [Act.put, List.setIfInBounds_toArray, List.set_cons_zero, List.set_cons_succ, List.nil_append, List.cons_append])
  refine chain_is (step_take (by rfl) ?yq21n6) ?rq21n6
  case yq21n6 =>
    intro w hbw hd
    clear hd
    go_simp
    first | done | with_reducible rfl
  (try simp only [Act.put, List.setIfInBounds_toArray, List.set_cons_zero, List.set_cons_succ, List.nil_append, List.cons_append])
  refine chain_is (step_take (by rfl) ?yq21n7) ?rq21n7
  case yq21n7 =>
    intro w hbw hd
    clear hd
    go_simp
    first | done | with_reducible rfl
  (try simp only [Act.put, List.setIfInBounds_toArray, List.set_cons_zero, List.set_cons_succ, List.nil_append, List.cons_append])
  refine chain_is (step_take (by rfl) ?yq21n8) ?rq21n8
  case yq21n8 =>
    intro w hbw hd
    clear hd
    go_simp
    first | done | with_reducible rfl
  (try simp only [Act.put, List.setIfInBounds_toArray, List.set_cons_zero, List.set_cons_succ, List.nil_append, List.cons_append])
  refine chain_is (step_take (by rfl) ?yq21n9) ?rq21n9
  case yq21n9 =>
    intro w hbw hd
    clear hd
    go_simp
    first | done | with_reducible rfl
  (try simp only [Act.put, List.setIfInBounds_toArray, List.set_cons_zero, List.set_cons_succ, List.nil_append, List.cons_append])
  refine chain_is (step_take (by rfl) ?yq21n10) ?rq21n10
  case yq21n10 =>
    intro w hbw hd
    clear hd
    go_simp
    first | done | with_reducible rfl
  (try simp only [Act.put, List.setIfInBounds_toArray, List.set_cons_zero, List.set_cons_succ, List.nil_append, List.cons_append])
  refine chain_is (step_take (by rfl) ?yq21n11) ?rq21n11
  case yq21n11 =>
    intro w hbw hd
    clear hd
    go_simp
    first | done | with_reducible rfl
  (try simp only [Act.put, List.setIfInBounds_toArray, List.set_cons_zero, List.set_cons_succ, List.nil_append, List.cons_append])
  refine chain_is (step_take (by rfl) ?yq21n12) ?rq21n12
  case yq21n12 =>
    intro w hbw hd
    clear hd
    go_simp
    first | done | with_reducible rfl
  (try simp only [Act.put, List.setIfInBounds_toArray, List.set_cons_zero, List.set_cons_succ, List.nil_append, List.cons_append])
  refine chain_is (step_take (by rfl) ?yq21n13) ?rq21n13
  case yq21n13 =>
    intro w hbw hd
    clear hd
    go_simp
    first | done | with_reducible rfl
  (try simp only [Act.put, List.setIfInBounds_toArray, List.set_cons_zero, List.set_cons_succ, List.nil_append, List.cons_append])
  refine chain_is (step_take (by rfl) ?yq21n14) ?rq21n14
  case yq21n14 =>
    intro w hbw hd
    clear hd
    go_simp
    first | done | with_reducible rfl
  (try simp only [Act.put, List.setIfInBounds_toArray, List.set_cons_zero, List.set_cons_succ, List.nil_append, List.cons_append])
  refine chain_is (step_take (by rfl) ?yq21n15) ?rq21n15
  case yq21n15 =>
    intro w hbw hd
    clear hd
    go_simp
    first | done | with_reducible rfl
  (try simp only [Act.put, List.setIfInBounds_toArray, List.set_cons_zero, List.set_cons_succ, List.nil_append, List.cons_append])
  refine chain_is (step_take (by rfl) ?yq21n16) ?rq21n16
  case yq21n16 =>
    intro w hbw hd
    clear hd
    go_simp
    first | done | with_reducible rfl
  (try simp only [Act.put, List.setIfInBounds_toArray, List.set_cons_zero, List.set_cons_succ, List.nil_append, List.cons_append])
  refine chain_is (step_take (by rfl) ?yq21n17) ?rq21n17
  case yq21n17 =>
    intro w hbw hd
    clear hd
    go_simp
    first | done | with_reducible rfl
  (try simp only [Act.put, List.setIfInBounds_toArray, List.set_cons_zero, List.set_cons_succ, List.nil_append, List.cons_append])
  refine chain_is (step_take (by rfl) ?yq21n18) ?rq21n18
  case yq21n18 =>
    intro w hbw hd
    clear hd
    go_simp
    first | done | with_reducible rfl
  (try simp only [Act.put, List.setIfInBounds_toArray, List.set_cons_zero, List.set_cons_succ, List.nil_append, List.cons_append])
  refine chain_is (step_take (by rfl) ?yq21n19) ?rq21n19
  case yq21n19 =>
    intro w hbw hd
    clear hd
    go_simp
    first | done | with_reducible rfl
  (try simp only [Act.put, List.setIfInBounds_toArray, List.set_cons_zero, List.set_cons_succ, List.nil_append, List.cons_append])
  refine chain_is (step_take (by rfl) ?yq21n20) ?rq21n20
  case yq21n20 =>
    intro w hbw hd
    clear hd
    go_simp
    first | done | with_reducible rfl
  (try simp only [Act.put, List.setIfInBounds_toArray, List.set_cons_zero, List.set_cons_succ, List.nil_append, List.cons_append])
  refine chain_is (step_take (by rfl) ?yq21n21) ?rq21n21
  case yq21n21 =>
    intro w hbw hd
    clear hd
    go_simp
    first | done | with_reducible rfl
  (try simp only [Act.put, List.setIfInBounds_toArray, List.set_cons_zero, List.set_cons_succ, List.nil_append, List.cons_append])
  refine chain_is (step_take (by rfl) ?yq21n22) ?rq21n22
  case yq21n22 =>
    intro w hbw hd
    clear hd
    go_simp
    first | done | with_reducible rfl
  (try simp only [Act.put, List.setIfInBounds_toArray, List.set_cons_zero, List.set_cons_succ, List.nil_append, List.cons_append])
  refine chain_is (step_take (by rfl) ?yq21n23) ?rq21n23
  case yq21n23 =>
    intro w hbw hd
    clear hd
    go_simp
    first | done | with_reducible rfl
  (try simp only [Act.put, List.setIfInBounds_toArray, List.set_cons_zero, List.set_cons_succ, List.nil_append, List.cons_append])
  refine chain_has ?sq21n24 (fun vq21n24 => ?rq21n24)
  case sq21n24 =>
    intro w hbw hd K Q' hK
    clear hd
    go_simp
    refine hK.out (.slice (some ⟨w.heap.size, 0, none⟩) 4 4) _ _ ?_ ?_ ?_
    · (simp only [Act.put, List.setIfInBounds_toArray, List.set_cons_zero, List.set_cons_succ, List.nil_append, List.cons_append])
    · exact (by repeat' (first | with_reducible exact Below.refl _ _ | with_reducible assumption | with_reducible apply Below.drew | with_reducible apply below_drewN | with_reducible apply Below.alloc | with_reducible apply Below.setCell | (with_reducible refine Below.trans ?_ (Below.mono (by assumption) ?_)) | (simp; done) | (simp; omega) | omega | with_reducible apply le_size_alloc | with_reducible apply le_size_drewN | with_reducible apply le_size_drew | with_reducible apply le_size_setCell | with_reducible refine Nat.le_trans ?_ (Below.size (by assumption))))
    · exact ⟨_, rfl, Blk.new_ rfl rfl⟩
  (try simp only [Act.put, List.setIfInBounds_toArray, List.set_cons_zero, List.set_cons_succ, List.nil_append, List.cons_append])
  refine chain_is ?sq21n25 ?rq21n25
  case sq21n25 =>
    intro w hbw hd K Q' hK
    obtain ⟨g, rfl, kg⟩ : LitS 3 4 [.int .i64 0, .int .i64 1, .int .i64 2, .int .i64 3] _ w := hd 24 _ _ (by rfl) rfl rfl
    clear hd
    go_simp
    refine (same_lit Z1 _ zc _ 4 [0, 1, 2, 3] _ rfl (SO_45.out.ext hbw) (Sl.of_lit (t := 3) (xs := [0, 1, 2, 3]) kg) (by omega)).mono ?_
    rintro e x ⟨rfl, hx⟩
    go_wp2_with fail
    refine hK.out (.bool true) _ _ ?_ ?_ rfl
    · (simp only [Act.put, List.setIfInBounds_toArray, List.set_cons_zero, List.set_cons_succ, List.nil_append, List.cons_append])
    · exact (by repeat' (first | with_reducible exact Below.refl _ _ | with_reducible assumption | with_reducible apply Below.drew | with_reducible apply below_drewN | with_reducible apply Below.alloc | with_reducible apply Below.setCell | (with_reducible refine Below.trans ?_ (Below.mono (by assumption) ?_)) | (simp; done) | (simp; omega) | omega | with_reducible apply le_size_alloc | with_reducible apply le_size_drewN | with_reducible apply le_size_drew | with_reducible apply le_size_setCell | with_reducible refine Nat.le_trans ?_ (Below.size (by assumption))))
  (try simp only [Act.put, List.setIfInBounds_toArray, List.set_cons_zero, List.set_cons_succ, List.nil_append, List.cons_append])
  refine chain_is (step_take (by rfl) ?yq21n26) ?rq21n26
  case yq21n26 =>
    intro w hbw hd
    clear hd
    go_simp
    first | done | with_reducible rfl
  (try simp only [Act.put, List.setIfInBounds_toArray, List.set_cons_zero, List.set_cons_succ, List.nil_append, List.cons_append])
  refine chain_is (step_take (by rfl) ?yq21n27) ?rq21n27
  case yq21n27 =>
    intro w hbw hd
    clear hd
    go_simp
    first | done | with_reducible rfl
  (try simp only [Act.put, List.setIfInBounds_toArray, List.set_cons_zero, List.set_cons_succ, List.nil_append, List.cons_append])
  refine chain_is (step_take (by rfl) ?yq21n28) ?rq21n28
  case yq21n28 =>
    intro w hbw hd
    clear hd
    go_simp
    first | done | with_reducible rfl
  (try simp only [Act.put, List.setIfInBounds_toArray, List.set_cons_zero, List.set_cons_succ, List.nil_append, List.cons_append])
  refine chain_is (step_take (by rfl) ?yq21n29) ?rq21n29
  case yq21n29 =>
    intro w hbw hd
    clear hd
    go_simp
    first | done | with_reducible rfl
  (try simp only [Act.put, List.setIfInBounds_toArray, List.set_cons_zero, List.set_cons_succ, List.nil_append, List.cons_append])
  refine chain_is (step_take (by rfl) ?yq21n30) ?rq21n30
  case yq21n30 =>
    intro w hbw hd
    clear hd
    go_simp
    first | done | with_reducible rfl
  (try simp only [Act.put, List.setIfInBounds_toArray, List.set_cons_zero, List.set_cons_succ, List.nil_append, List.cons_append])
  refine chain_is (step_take (by rfl) ?yq21n31) ?rq21n31
  case yq21n31 =>
    intro w hbw hd
    clear hd
    go_simp
    first | done | with_reducible rfl
  (try simp only [Act.put, List.setIfInBounds_toArray, List.set_cons_zero, List.set_cons_succ, List.nil_append, List.cons_append])
  refine chain_end (fun wz hbz hd => ?_)
  clear hd
  have bw47 : Below W0.heap.size W0 wz := (by repeat' (first | with_reducible exact Below.refl _ _ | with_reducible assumption | with_reducible apply Below.drew | with_reducible apply below_drewN | with_reducible apply Below.alloc | with_reducible apply Below.setCell | (with_reducible refine Below.trans ?_ (Below.mono (by assumption) ?_)) | (simp; done) | (simp; omega) | omega | with_reducible apply le_size_alloc | with_reducible apply le_size_drewN | with_reducible apply le_size_drew | with_reducible apply le_size_setCell | with_reducible refine Nat.le_trans ?_ (Below.size (by assumption))))
  have HB_47 : Hid (Below w.heap.size w wz) := HB_45.out.trans (bw47.mono HB_45.out.size)
  have Mu_47 : Hid (InMem wz U1 U2 U3 [1, 3] ([] : List Int) [false, false, false, false, false, false, false, false]) := Mu_45.out.ext bw47
  have u_47 : Hid (Blk wz x33.heap.size 25 #[.slice U1 2 u1, .slice U2 0 u2, .slice U3 8 u3]) := u_45.out.below_ bw47 u_45.out.lt
  have SO_47 : Hid (Sl wz (.int .i64) Z1 [0, 1, 2, 3]) := SO_45.out.ext bw47
  clear bw47 hbz HB_45 Mu_45 u_45 SO_45
  clear hz0 bw45 hb0 HB_44 Mu_44 u_44 SO qu0 qu1 qu2 zu
  obtain ⟨x46, rfl⟩ : ∃ x46 : World, x46 = wz := ⟨_, rfl⟩
  clear SO_47
  clear Mu_47
  clear u_47
  go_wp2_with fail
  refine (lists_none none none 0 0 0 0 0 _).mono ?_
  rintro e x48 ⟨g3, rfl, s3, hx48⟩
  have bw49 : Below x46.heap.size x46 x48 := (by repeat' (first | with_reducible exact Below.refl _ _ | with_reducible assumption | with_reducible apply Below.drew | with_reducible apply below_drewN | with_reducible apply Below.alloc | with_reducible apply Below.setCell | (with_reducible refine Below.trans ?_ (Below.mono (by assumption) ?_)) | (simp; done) | (simp; omega) | omega | with_reducible apply le_size_alloc | with_reducible apply le_size_drewN | with_reducible apply le_size_drew | with_reducible apply le_size_setCell | with_reducible refine Nat.le_trans ?_ (Below.size (by assumption))))
  have HB_49 : Hid (Below w.heap.size w x48) := HB_47.out.trans (bw49.mono HB_47.out.size)
  clear bw49 hx48 HB_47
  go_wp2_with fail
  have Hd : Hid (demS [] [] [false, false, false, false, false, false, false, false] = LR.bad 6) := by show _ = _; kernel_rfl
  refine (Demote_S none none _ 0 0 8 [] [] [false, false, false, false, false, false, false, false] _ (inMem_lit Sl.nil Sl.nil s3 (by simp) (by simp) (by simp) (by simp) (by simp))).mono ?_
  unfold LPost3
  rw [Hd.out]
  rintro e x50 ⟨O1, o1, O2, o2, O3, o3, rfl, _, _, hx50⟩
  have bw51 : Below x48.heap.size x48 x50 := (by repeat' (first | with_reducible exact Below.refl _ _ | with_reducible assumption | with_reducible apply Below.drew | with_reducible apply below_drewN | with_reducible apply Below.alloc | with_reducible apply Below.setCell | (with_reducible refine Below.trans ?_ (Below.mono (by assumption) ?_)) | (simp; done) | (simp; omega) | omega | with_reducible apply le_size_alloc | with_reducible apply le_size_drewN | with_reducible apply le_size_drew | with_reducible apply le_size_setCell | with_reducible refine Nat.le_trans ?_ (Below.size (by assumption))))
  have HB_51 : Hid (Below w.heap.size w x50) := HB_49.out.trans (bw51.mono HB_49.out.size)
  clear bw51 hx50 HB_49
  dsimp only [LR.bad]
  simp only [List.length_nil]
  go_wp2_with fail
  refine (lists_none none none 0 0 0 0 0 _).mono ?_
  rintro e x52 ⟨g5, rfl, s5, hx52⟩
  have bw53 : Below x50.heap.size x50 x52 := (by repeat' (first | with_reducible exact Below.refl _ _ | with_reducible assumption | with_reducible apply Below.drew | with_reducible apply below_drewN | with_reducible apply Below.alloc | with_reducible apply Below.setCell | (with_reducible refine Below.trans ?_ (Below.mono (by assumption) ?_)) | (simp; done) | (simp; omega) | omega | with_reducible apply le_size_alloc | with_reducible apply le_size_drewN | with_reducible apply le_size_drew | with_reducible apply le_size_setCell | with_reducible refine Nat.le_trans ?_ (Below.size (by assumption))))
  have HB_53 : Hid (Below w.heap.size w x52) := HB_51.out.trans (bw53.mono HB_51.out.size)
  clear bw53 hx52 HB_51
  go_wp2_with fail
  have Vl3 : Hid (lastV ([] : List Int) ([] : List Int) [false, false, false, false, false, false, false, false] = (0, 6)) := by show _ = _; kernel_rfl
  refine (Last_S _ _ _ _ _ _ ([] : List Int) ([] : List Int) [false, false, false, false, false, false, false, false] _ (inMem_lit Sl.nil Sl.nil s5 (by simp) (by simp) (by simp) (by simp) (by simp))).mono ?_
  rw [Vl3.out]
  rintro e x54 ⟨rfl, hx54⟩
  have bw55 : Below x52.heap.size x52 x54 := (by repeat' (first | with_reducible exact Below.refl _ _ | with_reducible assumption | with_reducible apply Below.drew | with_reducible apply below_drewN | with_reducible apply Below.alloc | with_reducible apply Below.setCell | (with_reducible refine Below.trans ?_ (Below.mono (by assumption) ?_)) | (simp; done) | (simp; omega) | omega | with_reducible apply le_size_alloc | with_reducible apply le_size_drewN | with_reducible apply le_size_drew | with_reducible apply le_size_setCell | with_reducible refine Nat.le_trans ?_ (Below.size (by assumption))))
  have HB_55 : Hid (Below w.heap.size w x54) := HB_53.out.trans (bw55.mono HB_53.out.size)
  clear bw55 hx54 HB_53
  dsimp only
  clear Vl3
  go_wp2_with fail
  refine (awake_any _).mono ?_
  rintro e x56 ⟨rfl, hx56⟩
  have bw57 : Below x54.heap.size x54 x56 := (by repeat' (first | with_reducible exact Below.refl _ _ | with_reducible assumption | with_reducible apply Below.drew | with_reducible apply below_drewN | with_reducible apply Below.alloc | with_reducible apply Below.setCell | (with_reducible refine Below.trans ?_ (Below.mono (by assumption) ?_)) | (simp; done) | (simp; omega) | omega | with_reducible apply le_size_alloc | with_reducible apply le_size_drewN | with_reducible apply le_size_drew | with_reducible apply le_size_setCell | with_reducible refine Nat.le_trans ?_ (Below.size (by assumption))))
  have HB_57 : Hid (Below w.heap.size w x56) := HB_55.out.trans (bw57.mono HB_55.out.size)
  clear bw57 hx56 HB_55
  go_wp2
  go_ret
  exact ⟨by first | rfl | simp, HB_57.out⟩

set_option maxRecDepth 100000 in
theorem lruKnown_lifted (os : Os) (started : os.Started) (H : Type) (enc : TypeId × Value → H) :
    ReturnsInHanded {} Try.checked os 9 .any (Rows.lruKnownSpec.pre6 enc Try.prog Try.f9 Rows.lruKnownRow.domain false) (Rows.lruKnownSpec.post enc Try.prog Try.f9 false true false false) := by
  refine returnsInHanded_of_change (C := Try.checked) own started (by kernel_rfl) Try.func9
    (ChangeSpec.witness6 (enc := enc) (C := Try.checked) false ⟨#[], #[], []⟩ 8 (by kernel_rfl) (by kernel_rfl) (by kernel_rfl) (by kernel_rfl)) ?_
  intro W base args ds gs before hval0 hW hcnd _
  have hval : ∀ (j : Nat) t v, Try.f9.params[j]? = some t → args[j]? = some v → Value.okWide Try.prog W .any base t v := hval0
  have hW' := hW
  obtain ⟨p, q, hA0, hV, rfl, hfz, hnd⟩ := hW
  have hA : DataW.TrodAll enc Try.prog W 0 (fun _ => true) true Try.f9.params.toList args.toList ds p := hA0
  rw [Try.params9] at hA hval
  obtain ⟨rfl, rfl, rfl⟩ := trodAll_none hA
  obtain ⟨rfl, rfl⟩ := trodVars_none hV
  clear hA0 hval0
  refine (lruKnown_walk   W).mono fun e W' ⟨he, hb⟩ => ⟨_, he, ?_⟩
  exact law_post laidOut (s := Rows.lruKnownSpec) (B := 4) rfl rfl Try.underlying4 (by decide +kernel) hW' rfl hb

theorem lruKnown_holds : Rows.LruKnownSaid :=
  OpenClaim.holds_of_wide 9 Try.f9 rfl rfl rfl rfl rfl rfl rfl ⟨rfl, rfl, rfl, rfl, rfl⟩ rfl rfl rfl rfl rfl (by kernel_rfl) Try.func9 (by kernel_rfl)
    (of_decide_eq_true (by kernel_rfl)) (by unfold Func.isWrapper; first | (rw [if_pos (by decide +kernel)]; kernel_rfl) | (rw [if_neg (by decide +kernel)]; exact ⟨rfl, rfl⟩))
    (fun os started H enc _ => lruKnown_lifted os started H enc)

end Go.Proofs.Ytjilfijpepbfeaa
