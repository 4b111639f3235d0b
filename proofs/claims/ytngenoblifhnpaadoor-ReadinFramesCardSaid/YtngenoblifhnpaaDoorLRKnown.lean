/- ReadinKnown: the chapter's examples have the results given there. Written by gen_rknown.py. -/
import Derived.Test.YtngenoblifhnpaaDoorRiK
import Derived.Test.YtngenoblifhnpaaDoorFree
import Derived.Test.YtngenoblifhnpaaDoorRiC
namespace Go.Proofs.YtngenoblifhnpaaDoor
open Go.RowKit Go.Maps
open Go.ChangeShapes Go.WideShapes Go.ChangeAt Go.Joins

set_option maxRecDepth 100000 in
set_option maxHeartbeats 8000000 in
theorem readinKnown_walk (w : World) (hal : AL w) : Calls Tryd.prog 3 #[] w fun e w' => e = .returned (.bool true) ∧ Below w.heap.size w w' := by
  have HAL := Lib.hid hal
  clear hal
  have sh1 : Hid (shtR (1, -1, -1) = ([1, 3, 5], 0)) := by show _ = _; decide
  have ne1 : Hid (neeR (1, -1, -1) = (3, 0)) := by show _ = _; decide
  have ne2 : Hid (neeR (1, -1, 9) = (2, 0)) := by show _ = _; decide
  go_enter Tryd.func3, Tryd.ntmps3
  go_wp2_with fail
  refine (Begin_any (-1) w (r := (1, -1, -1)) (z := 0) (by decide)).mono ?_
  rintro e w1 ⟨rfl, hb1⟩
  go_wp2_with fail
  obtain ⟨V1, hV1⟩ : ∃ V, w1.alloc (.cells #[.int .i64 1, .int .i64 (-1), .int .i64 (-1)] 23) = V := ⟨_, rfl⟩
  have BV1 : Below w.heap.size w V1 := by rw [← hV1]; exact (by repeat' (first | with_reducible exact Below.refl _ _ | with_reducible assumption | with_reducible apply Below.drew | with_reducible apply below_drewN | with_reducible apply Below.alloc | with_reducible apply Below.setCell | (with_reducible refine Below.trans ?_ (Below.mono (by assumption) ?_)) | (simp; done) | (simp; omega) | omega | with_reducible apply le_size_alloc | with_reducible apply le_size_drewN | with_reducible apply le_size_drew | with_reducible apply le_size_setCell | refine Nat.le_trans ?_ (Below.size (by assumption))))
  have kb1 : Blk V1 w1.heap.size 23 #[.int .i64 1, .int .i64 (-1), .int .i64 (-1)] := by rw [← hV1]; exact Blk.new_ rfl rfl
  rw [hV1]
  clear hV1 hb1
  refine (Begin_any 9 V1 (r := (1, -1, 9)) (z := 0) (by decide)).mono ?_
  rintro e w2 ⟨rfl, hb2⟩
  go_wp2_with fail
  obtain ⟨V2, hV2⟩ : ∃ V, w2.alloc (.cells #[.int .i64 1, .int .i64 (-1), .int .i64 9] 23) = V := ⟨_, rfl⟩
  have BV2 : Below V1.heap.size V1 V2 := by rw [← hV2]; exact (by repeat' (first | with_reducible exact Below.refl _ _ | with_reducible assumption | with_reducible apply Below.drew | with_reducible apply below_drewN | with_reducible apply Below.alloc | with_reducible apply Below.setCell | (with_reducible refine Below.trans ?_ (Below.mono (by assumption) ?_)) | (simp; done) | (simp; omega) | omega | with_reducible apply le_size_alloc | with_reducible apply le_size_drewN | with_reducible apply le_size_drew | with_reducible apply le_size_setCell | refine Nat.le_trans ?_ (Below.size (by assumption))))
  have kb2 : Blk V2 w2.heap.size 23 #[.int .i64 1, .int .i64 (-1), .int .i64 9] := by rw [← hV2]; exact Blk.new_ rfl rfl
  rw [hV2]
  clear hV2 hb2
  refine (at_any 2 5 9 V2).mono ?_
  rintro e w3 ⟨rfl, hb3⟩
  go_wp2_with fail
  obtain ⟨Z, hV3⟩ : ∃ V, w3.alloc (.cells #[.int .i64 2, .int .i64 5, .int .i64 9] 23) = V := ⟨_, rfl⟩
  have BV3 : Below V2.heap.size V2 Z := by rw [← hV3]; exact (by repeat' (first | with_reducible exact Below.refl _ _ | with_reducible assumption | with_reducible apply Below.drew | with_reducible apply below_drewN | with_reducible apply Below.alloc | with_reducible apply Below.setCell | (with_reducible refine Below.trans ?_ (Below.mono (by assumption) ?_)) | (simp; done) | (simp; omega) | omega | with_reducible apply le_size_alloc | with_reducible apply le_size_drewN | with_reducible apply le_size_drew | with_reducible apply le_size_setCell | refine Nat.le_trans ?_ (Below.size (by assumption))))
  have kz3 : Blk Z w3.heap.size 23 #[.int .i64 2, .int .i64 5, .int .i64 9] := by rw [← hV3]; exact Blk.new_ rfl rfl
  rw [hV3]
  clear hV3 hb3
  have BZ : Below w.heap.size w Z := (BV1.trans (BV2.mono BV1.size)).trans (BV3.mono (Nat.le_trans BV1.size BV2.size))
  have kz1 : Blk Z w1.heap.size 23 #[.int .i64 1, .int .i64 (-1), .int .i64 (-1)] := (kb1.below_ BV2 kb1.lt).below_ BV3 (Nat.lt_of_lt_of_le kb1.lt BV2.size)
  have kz2 : Blk Z w2.heap.size 23 #[.int .i64 1, .int .i64 (-1), .int .i64 9] := kb2.below_ BV3 kb2.lt
  have HZ := Lib.hid BZ
  have HK := Lib.hid (And.intro kz1 (And.intro kz2 kz3))
  have HL : Hid (AL Z) := HAL.out.ext BZ
  have l1 := kz1.lt
  have l2 := kz2.lt
  have l3 := kz3.lt
  clear BZ BV1 BV2 BV3 kb1 kb2 kz1 kz2 kz3 HAL
  have B0 : Below Z.heap.size Z Z := Below.refl _ _
  go_wp2_with fail
  refine (at_any 2 5 (-1) _).mono ?_
  rintro e x1 ⟨rfl, hx1⟩
  have B2 : Below Z.heap.size Z x1 := (by repeat' (first | with_reducible exact Below.refl _ _ | with_reducible assumption | with_reducible apply Below.drew | with_reducible apply below_drewN | with_reducible apply Below.alloc | with_reducible apply Below.setCell | (with_reducible refine Below.trans ?_ (Below.mono (by assumption) ?_)) | (simp; done) | (simp; omega) | omega | with_reducible apply le_size_alloc | with_reducible apply le_size_drewN | with_reducible apply le_size_drew | with_reducible apply le_size_setCell | refine Nat.le_trans ?_ (Below.size (by assumption))))
  clear B0 hx1
  go_wp2_with fail
  refine (at_any 3 5 (-1) _).mono ?_
  rintro e x3 ⟨rfl, hx3⟩
  have B4 : Below Z.heap.size Z x3 := (by repeat' (first | with_reducible exact Below.refl _ _ | with_reducible assumption | with_reducible apply Below.drew | with_reducible apply below_drewN | with_reducible apply Below.alloc | with_reducible apply Below.setCell | (with_reducible refine Below.trans ?_ (Below.mono (by assumption) ?_)) | (simp; done) | (simp; omega) | omega | with_reducible apply le_size_alloc | with_reducible apply le_size_drewN | with_reducible apply le_size_drew | with_reducible apply le_size_setCell | refine Nat.le_trans ?_ (Below.size (by assumption))))
  clear B2 hx3
  go_wp2_with fail
  refine (goes_true 2 5 (-1) 3 (-1) 3 5 (-1) (-1) none 0 [] _ (HL.out.ext (by repeat' (first | with_reducible exact Below.refl _ _ | with_reducible assumption | with_reducible apply Below.drew | with_reducible apply below_drewN | with_reducible apply Below.alloc | with_reducible apply Below.setCell | (with_reducible refine Below.trans ?_ (Below.mono (by assumption) ?_)) | (simp; done) | (simp; omega) | omega | with_reducible apply le_size_alloc | with_reducible apply le_size_drewN | with_reducible apply le_size_drew | with_reducible apply le_size_setCell | refine Nat.le_trans ?_ (Below.size (by assumption))))) (by decide) Sl.nil (by simp)).mono ?_
  rintro e x5 ⟨rfl, hx5⟩
  have B6 : Below Z.heap.size Z x5 := (by repeat' (first | with_reducible exact Below.refl _ _ | with_reducible assumption | with_reducible apply Below.drew | with_reducible apply below_drewN | with_reducible apply Below.alloc | with_reducible apply Below.setCell | (with_reducible refine Below.trans ?_ (Below.mono (by assumption) ?_)) | (simp; done) | (simp; omega) | omega | with_reducible apply le_size_alloc | with_reducible apply le_size_drewN | with_reducible apply le_size_drew | with_reducible apply le_size_setCell | refine Nat.le_trans ?_ (Below.size (by assumption))))
  clear B4 hx5
  go_wp2_with fail
  refine (at_any 4 (-1) 9 _).mono ?_
  rintro e x7 ⟨rfl, hx7⟩
  have B8 : Below Z.heap.size Z x7 := (by repeat' (first | with_reducible exact Below.refl _ _ | with_reducible assumption | with_reducible apply Below.drew | with_reducible apply below_drewN | with_reducible apply Below.alloc | with_reducible apply Below.setCell | (with_reducible refine Below.trans ?_ (Below.mono (by assumption) ?_)) | (simp; done) | (simp; omega) | omega | with_reducible apply le_size_alloc | with_reducible apply le_size_drewN | with_reducible apply le_size_drew | with_reducible apply le_size_setCell | refine Nat.le_trans ?_ (Below.size (by assumption))))
  clear B6 hx7
  go_wp2_with fail
  refine (at_any 5 9 (-1) _).mono ?_
  rintro e x9 ⟨rfl, hx9⟩
  have B10 : Below Z.heap.size Z x9 := (by repeat' (first | with_reducible exact Below.refl _ _ | with_reducible assumption | with_reducible apply Below.drew | with_reducible apply below_drewN | with_reducible apply Below.alloc | with_reducible apply Below.setCell | (with_reducible refine Below.trans ?_ (Below.mono (by assumption) ?_)) | (simp; done) | (simp; omega) | omega | with_reducible apply le_size_alloc | with_reducible apply le_size_drewN | with_reducible apply le_size_drew | with_reducible apply le_size_setCell | refine Nat.le_trans ?_ (Below.size (by assumption))))
  clear B8 hx9
  go_wp2_with fail
  refine (goes_true 4 (-1) 9 4 (-1) 5 9 (-1) 9 none 0 [] _ (HL.out.ext (by repeat' (first | with_reducible exact Below.refl _ _ | with_reducible assumption | with_reducible apply Below.drew | with_reducible apply below_drewN | with_reducible apply Below.alloc | with_reducible apply Below.setCell | (with_reducible refine Below.trans ?_ (Below.mono (by assumption) ?_)) | (simp; done) | (simp; omega) | omega | with_reducible apply le_size_alloc | with_reducible apply le_size_drewN | with_reducible apply le_size_drew | with_reducible apply le_size_setCell | refine Nat.le_trans ?_ (Below.size (by assumption))))) (by decide) Sl.nil (by simp)).mono ?_
  rintro e x11 ⟨rfl, hx11⟩
  have B12 : Below Z.heap.size Z x11 := (by repeat' (first | with_reducible exact Below.refl _ _ | with_reducible assumption | with_reducible apply Below.drew | with_reducible apply below_drewN | with_reducible apply Below.alloc | with_reducible apply Below.setCell | (with_reducible refine Below.trans ?_ (Below.mono (by assumption) ?_)) | (simp; done) | (simp; omega) | omega | with_reducible apply le_size_alloc | with_reducible apply le_size_drewN | with_reducible apply le_size_drew | with_reducible apply le_size_setCell | refine Nat.le_trans ?_ (Below.size (by assumption))))
  clear B10 hx11
  go_wp2_with fail
  refine wp_region_chain [.is ?fg5n0, .is (.agg #[.int .i64 1, .int .i64 (-1), .int .i64 (-1)]), .has (LitS 3 1 [.int .i64 9]), .is (.bool true), .is ?fg5n4, .is ?fg5n5, .is (.agg #[.int .i64 2, .int .i64 9, .int .i64 (-1)]), .is (.bool true), .is ?fg5n8, .is ?fg5n9] (by kernel_rfl) (by kernel_rfl) (by kernel_rfl) (lasts_is (lasts_is (lasts_has (LitS.lasts 3 1 [.int .i64 9]) (lasts_is (lasts_is (lasts_is (lasts_is (lasts_is (lasts_is (lasts_is lasts_nil)))))))))) (fun W0 hb0 hz0 => ?_)
  rotate_left 5
  have BW : Below Z.heap.size Z W0 := B12.trans (hb0.mono B12.size)
  have HLW : Hid (AL W0) := HL.out.ext BW
  have qb0 : W0.cell? ⟨w2.heap.size, 0, none⟩ = some (.int .i64 1) := ((HK.out.2.1.below_ BW l2).cell_ 0).trans (by simp)
  have qb1 : W0.cell? ⟨w2.heap.size, 1, none⟩ = some (.int .i64 (-1)) := ((HK.out.2.1.below_ BW l2).cell_ 1).trans (by simp)
  have qb2 : W0.cell? ⟨w2.heap.size, 2, none⟩ = some (.int .i64 9) := ((HK.out.2.1.below_ BW l2).cell_ 2).trans (by simp)
  have zb : w2.heap.size < W0.heap.size := Nat.lt_of_lt_of_le l2 BW.size
  have qa0 : W0.cell? ⟨w1.heap.size, 0, none⟩ = some (.int .i64 1) := ((HK.out.1.below_ BW l1).cell_ 0).trans (by simp)
  have qa1 : W0.cell? ⟨w1.heap.size, 1, none⟩ = some (.int .i64 (-1)) := ((HK.out.1.below_ BW l1).cell_ 1).trans (by simp)
  have qa2 : W0.cell? ⟨w1.heap.size, 2, none⟩ = some (.int .i64 (-1)) := ((HK.out.1.below_ BW l1).cell_ 2).trans (by simp)
  have za : w1.heap.size < W0.heap.size := Nat.lt_of_lt_of_le l1 BW.size
  refine chain_is (step_take (by rfl) ?yg5n0) ?rg5n0
  case yg5n0 =>
    intro w hbw hd
    have r0 : w.cell? ⟨w2.heap.size, 0, none⟩ = some (.int .i64 1) := cell_keep hbw qb0 zb
    have r1 : w.cell? ⟨w2.heap.size, 1, none⟩ = some (.int .i64 (-1)) := cell_keep hbw qb1 zb
    have r2 : w.cell? ⟨w2.heap.size, 2, none⟩ = some (.int .i64 9) := cell_keep hbw qb2 zb
    clear hd
    go_simp
    first | done | with_reducible rfl
  (try simp only [Act.put, List.setIfInBounds_toArray, List.set_cons_zero, List.set_cons_succ])
  refine chain_is ?sg5n1 ?rg5n1
  case sg5n1 =>
    intro w hbw hd K Q' hK
    clear hd
    go_simp
    refine (at_any 1 (-1) (-1) _).mono ?_
    rintro e x13 ⟨rfl, hx13⟩
    go_wp2_with fail
    refine hK.out (.agg #[.int .i64 1, .int .i64 (-1), .int .i64 (-1)]) _ _ ?_ ?_ rfl
    · (simp only [Act.put, List.setIfInBounds_toArray, List.set_cons_zero, List.set_cons_succ])
    · exact (by repeat' (first | with_reducible exact Below.refl _ _ | with_reducible assumption | with_reducible apply Below.drew | with_reducible apply below_drewN | with_reducible apply Below.alloc | with_reducible apply Below.setCell | (with_reducible refine Below.trans ?_ (Below.mono (by assumption) ?_)) | (simp; done) | (simp; omega) | omega | with_reducible apply le_size_alloc | with_reducible apply le_size_drewN | with_reducible apply le_size_drew | with_reducible apply le_size_setCell | refine Nat.le_trans ?_ (Below.size (by assumption))))
  (try simp only [Act.put, List.setIfInBounds_toArray, List.set_cons_zero, List.set_cons_succ])
  refine chain_has ?sg5n2 (fun vg5n2 => ?rg5n2)
  case sg5n2 =>
    intro w hbw hd K Q' hK
    clear hd
    go_simp
    refine hK.out (.slice (some ⟨w.heap.size, 0, none⟩) 1 1) _ _ ?_ ?_ ?_
    · (simp only [Act.put, List.setIfInBounds_toArray, List.set_cons_zero, List.set_cons_succ])
    · exact (by repeat' (first | with_reducible exact Below.refl _ _ | with_reducible assumption | with_reducible apply Below.drew | with_reducible apply below_drewN | with_reducible apply Below.alloc | with_reducible apply Below.setCell | (with_reducible refine Below.trans ?_ (Below.mono (by assumption) ?_)) | (simp; done) | (simp; omega) | omega | with_reducible apply le_size_alloc | with_reducible apply le_size_drewN | with_reducible apply le_size_drew | with_reducible apply le_size_setCell | refine Nat.le_trans ?_ (Below.size (by assumption))))
    · exact ⟨_, rfl, Blk.new_ rfl rfl⟩
  (try simp only [Act.put, List.setIfInBounds_toArray, List.set_cons_zero, List.set_cons_succ])
  refine chain_is ?sg5n3 ?rg5n3
  case sg5n3 =>
    intro w hbw hd K Q' hK
    obtain ⟨g, rfl, kg⟩ : LitS 3 1 [.int .i64 9] _ w := hd 2 _ _ (by rfl) rfl rfl
    clear hd
    go_simp
    refine (goes_true 1 (-1) 9 4 (-1) 1 (-1) (-1) (-1) _ _ [9] _ (HLW.out.ext hbw) (by decide) (Sl.of_lit (t := 3) (xs := [9]) kg) (by simp)).mono ?_
    rintro e x14 ⟨rfl, hx14⟩
    go_wp2_with fail
    refine hK.out (.bool true) _ _ ?_ ?_ rfl
    · (simp only [Act.put, List.setIfInBounds_toArray, List.set_cons_zero, List.set_cons_succ])
    · exact (by repeat' (first | with_reducible exact Below.refl _ _ | with_reducible assumption | with_reducible apply Below.drew | with_reducible apply below_drewN | with_reducible apply Below.alloc | with_reducible apply Below.setCell | (with_reducible refine Below.trans ?_ (Below.mono (by assumption) ?_)) | (simp; done) | (simp; omega) | omega | with_reducible apply le_size_alloc | with_reducible apply le_size_drewN | with_reducible apply le_size_drew | with_reducible apply le_size_setCell | refine Nat.le_trans ?_ (Below.size (by assumption))))
  (try simp only [Act.put, List.setIfInBounds_toArray, List.set_cons_zero, List.set_cons_succ])
  refine chain_is (step_take (by rfl) ?yg5n4) ?rg5n4
  case yg5n4 =>
    intro w hbw hd
    clear hd
    go_simp
    first | done | with_reducible rfl
  (try simp only [Act.put, List.setIfInBounds_toArray, List.set_cons_zero, List.set_cons_succ])
  refine chain_is (step_take (by rfl) ?yg5n5) ?rg5n5
  case yg5n5 =>
    intro w hbw hd
    have r0 : w.cell? ⟨w1.heap.size, 0, none⟩ = some (.int .i64 1) := cell_keep hbw qa0 za
    have r1 : w.cell? ⟨w1.heap.size, 1, none⟩ = some (.int .i64 (-1)) := cell_keep hbw qa1 za
    have r2 : w.cell? ⟨w1.heap.size, 2, none⟩ = some (.int .i64 (-1)) := cell_keep hbw qa2 za
    clear hd
    go_simp
    first | done | with_reducible rfl
  (try simp only [Act.put, List.setIfInBounds_toArray, List.set_cons_zero, List.set_cons_succ])
  refine chain_is ?sg5n6 ?rg5n6
  case sg5n6 =>
    intro w hbw hd K Q' hK
    clear hd
    go_simp
    refine (at_any 2 9 (-1) _).mono ?_
    rintro e x15 ⟨rfl, hx15⟩
    go_wp2_with fail
    refine hK.out (.agg #[.int .i64 2, .int .i64 9, .int .i64 (-1)]) _ _ ?_ ?_ rfl
    · (simp only [Act.put, List.setIfInBounds_toArray, List.set_cons_zero, List.set_cons_succ])
    · exact (by repeat' (first | with_reducible exact Below.refl _ _ | with_reducible assumption | with_reducible apply Below.drew | with_reducible apply below_drewN | with_reducible apply Below.alloc | with_reducible apply Below.setCell | (with_reducible refine Below.trans ?_ (Below.mono (by assumption) ?_)) | (simp; done) | (simp; omega) | omega | with_reducible apply le_size_alloc | with_reducible apply le_size_drewN | with_reducible apply le_size_drew | with_reducible apply le_size_setCell | refine Nat.le_trans ?_ (Below.size (by assumption))))
  (try simp only [Act.put, List.setIfInBounds_toArray, List.set_cons_zero, List.set_cons_succ])
  refine chain_is ?sg5n7 ?rg5n7
  case sg5n7 =>
    intro w hbw hd K Q' hK
    clear hd
    go_simp
    refine (goes_true 1 (-1) (-1) 1 9 2 9 (-1) (-1) none 0 [] _ (HLW.out.ext hbw) (by decide) Sl.nil (by simp)).mono ?_
    rintro e x16 ⟨rfl, hx16⟩
    go_wp2_with fail
    refine hK.out (.bool true) _ _ ?_ ?_ rfl
    · (simp only [Act.put, List.setIfInBounds_toArray, List.set_cons_zero, List.set_cons_succ])
    · exact (by repeat' (first | with_reducible exact Below.refl _ _ | with_reducible assumption | with_reducible apply Below.drew | with_reducible apply below_drewN | with_reducible apply Below.alloc | with_reducible apply Below.setCell | (with_reducible refine Below.trans ?_ (Below.mono (by assumption) ?_)) | (simp; done) | (simp; omega) | omega | with_reducible apply le_size_alloc | with_reducible apply le_size_drewN | with_reducible apply le_size_drew | with_reducible apply le_size_setCell | refine Nat.le_trans ?_ (Below.size (by assumption))))
  (try simp only [Act.put, List.setIfInBounds_toArray, List.set_cons_zero, List.set_cons_succ])
  refine chain_is (step_take (by rfl) ?yg5n8) ?rg5n8
  case yg5n8 =>
    intro w hbw hd
    clear hd
    go_simp
    first | done | with_reducible rfl
  (try simp only [Act.put, List.setIfInBounds_toArray, List.set_cons_zero, List.set_cons_succ])
  refine chain_is (step_take (by rfl) ?yg5n9) ?rg5n9
  case yg5n9 =>
    intro w hbw hd
    clear hd
    go_simp
    first | done | with_reducible rfl
  (try simp only [Act.put, List.setIfInBounds_toArray, List.set_cons_zero, List.set_cons_succ])
  refine chain_end (fun wz hbz hd => ?_)
  clear hd
  have B18 : Below Z.heap.size Z wz := BW.trans (hbz.mono BW.size)
  clear B12 BW hbz hb0 hz0 HLW qb0 qb1 qb2 zb qa0 qa1 qa2 za
  obtain ⟨x17, rfl⟩ : ∃ x17 : World, x17 = wz := ⟨_, rfl⟩
  go_wp2_with fail
  refine wp_region_chain [.is ?fg6n0, .is (.agg #[.int .i64 4, .int .i64 5, .int .i64 9]), .is (.bool true), .is ?fg6n3, .is (.agg #[.int .i64 4, .int .i64 5, .int .i64 9]), .is (.agg #[.int .i64 5, .int .i64 9, .int .i64 (-1)]), .has (LitS 3 1 [.int .i64 5]), .is (.bool true), .is ?fg6n8, .is ?fg6n9, .is (.agg #[.int .i64 4, .int .i64 5, .int .i64 9]), .is (.agg #[.int .i64 7, .int .i64 (-1), .int .i64 9]), .has (LitS 3 1 [.int .i64 5]), .is (.bool true), .is ?fg6n14, .is ?fg6n15, .is (.agg #[.int .i64 7, .int .i64 (-1), .int .i64 9]), .is (.agg #[.int .i64 7, .int .i64 (-1), .int .i64 (-1)]), .has (LitS 3 1 [.int .i64 9]), .is (.bool true), .is ?fg6n20, .is ?fg6n21] (by kernel_rfl) (by kernel_rfl) (by kernel_rfl) (lasts_is (lasts_is (lasts_is (lasts_is (lasts_is (lasts_is (lasts_has (LitS.lasts 3 1 [.int .i64 5]) (lasts_is (lasts_is (lasts_is (lasts_is (lasts_is (lasts_has (LitS.lasts 3 1 [.int .i64 5]) (lasts_is (lasts_is (lasts_is (lasts_is (lasts_is (lasts_has (LitS.lasts 3 1 [.int .i64 9]) (lasts_is (lasts_is (lasts_is lasts_nil)))))))))))))))))))))) (fun W0 hb0 hz0 => ?_)
  rotate_left 8
  have BW : Below Z.heap.size Z W0 := B18.trans (hb0.mono B18.size)
  have HLW : Hid (AL W0) := HL.out.ext BW
  have qboth0 : W0.cell? ⟨w3.heap.size, 0, none⟩ = some (.int .i64 2) := ((HK.out.2.2.below_ BW l3).cell_ 0).trans (by simp)
  have qboth1 : W0.cell? ⟨w3.heap.size, 1, none⟩ = some (.int .i64 5) := ((HK.out.2.2.below_ BW l3).cell_ 1).trans (by simp)
  have qboth2 : W0.cell? ⟨w3.heap.size, 2, none⟩ = some (.int .i64 9) := ((HK.out.2.2.below_ BW l3).cell_ 2).trans (by simp)
  have zboth : w3.heap.size < W0.heap.size := Nat.lt_of_lt_of_le l3 BW.size
  refine chain_is (step_take (by rfl) ?yg6n0) ?rg6n0
  case yg6n0 =>
    intro w hbw hd
    have r0 : w.cell? ⟨w3.heap.size, 0, none⟩ = some (.int .i64 2) := cell_keep hbw qboth0 zboth
    have r1 : w.cell? ⟨w3.heap.size, 1, none⟩ = some (.int .i64 5) := cell_keep hbw qboth1 zboth
    have r2 : w.cell? ⟨w3.heap.size, 2, none⟩ = some (.int .i64 9) := cell_keep hbw qboth2 zboth
    clear hd
    go_simp
    first | done | with_reducible rfl
  (try simp only [Act.put, List.setIfInBounds_toArray, List.set_cons_zero, List.set_cons_succ])
  refine chain_is ?sg6n1 ?rg6n1
  case sg6n1 =>
    intro w hbw hd K Q' hK
    clear hd
    go_simp
    refine (at_any 4 5 9 _).mono ?_
    rintro e x19 ⟨rfl, hx19⟩
    go_wp2_with fail
    refine hK.out (.agg #[.int .i64 4, .int .i64 5, .int .i64 9]) _ _ ?_ ?_ rfl
    · (simp only [Act.put, List.setIfInBounds_toArray, List.set_cons_zero, List.set_cons_succ])
    · exact (by repeat' (first | with_reducible exact Below.refl _ _ | with_reducible assumption | with_reducible apply Below.drew | with_reducible apply below_drewN | with_reducible apply Below.alloc | with_reducible apply Below.setCell | (with_reducible refine Below.trans ?_ (Below.mono (by assumption) ?_)) | (simp; done) | (simp; omega) | omega | with_reducible apply le_size_alloc | with_reducible apply le_size_drewN | with_reducible apply le_size_drew | with_reducible apply le_size_setCell | refine Nat.le_trans ?_ (Below.size (by assumption))))
  (try simp only [Act.put, List.setIfInBounds_toArray, List.set_cons_zero, List.set_cons_succ])
  refine chain_is ?sg6n2 ?rg6n2
  case sg6n2 =>
    intro w hbw hd K Q' hK
    clear hd
    go_simp
    refine (goes_true 2 5 9 2 (-1) 4 5 9 (-1) none 0 [] _ (HLW.out.ext hbw) (by decide) Sl.nil (by simp)).mono ?_
    rintro e x20 ⟨rfl, hx20⟩
    go_wp2_with fail
    refine hK.out (.bool true) _ _ ?_ ?_ rfl
    · (simp only [Act.put, List.setIfInBounds_toArray, List.set_cons_zero, List.set_cons_succ])
    · exact (by repeat' (first | with_reducible exact Below.refl _ _ | with_reducible assumption | with_reducible apply Below.drew | with_reducible apply below_drewN | with_reducible apply Below.alloc | with_reducible apply Below.setCell | (with_reducible refine Below.trans ?_ (Below.mono (by assumption) ?_)) | (simp; done) | (simp; omega) | omega | with_reducible apply le_size_alloc | with_reducible apply le_size_drewN | with_reducible apply le_size_drew | with_reducible apply le_size_setCell | refine Nat.le_trans ?_ (Below.size (by assumption))))
  (try simp only [Act.put, List.setIfInBounds_toArray, List.set_cons_zero, List.set_cons_succ])
  refine chain_is (step_take (by rfl) ?yg6n3) ?rg6n3
  case yg6n3 =>
    intro w hbw hd
    clear hd
    go_simp
    first | done | with_reducible rfl
  (try simp only [Act.put, List.setIfInBounds_toArray, List.set_cons_zero, List.set_cons_succ])
  refine chain_is ?sg6n4 ?rg6n4
  case sg6n4 =>
    intro w hbw hd K Q' hK
    clear hd
    go_simp
    refine (at_any 4 5 9 _).mono ?_
    rintro e x21 ⟨rfl, hx21⟩
    go_wp2_with fail
    refine hK.out (.agg #[.int .i64 4, .int .i64 5, .int .i64 9]) _ _ ?_ ?_ rfl
    · (simp only [Act.put, List.setIfInBounds_toArray, List.set_cons_zero, List.set_cons_succ])
    · exact (by repeat' (first | with_reducible exact Below.refl _ _ | with_reducible assumption | with_reducible apply Below.drew | with_reducible apply below_drewN | with_reducible apply Below.alloc | with_reducible apply Below.setCell | (with_reducible refine Below.trans ?_ (Below.mono (by assumption) ?_)) | (simp; done) | (simp; omega) | omega | with_reducible apply le_size_alloc | with_reducible apply le_size_drewN | with_reducible apply le_size_drew | with_reducible apply le_size_setCell | refine Nat.le_trans ?_ (Below.size (by assumption))))
  (try simp only [Act.put, List.setIfInBounds_toArray, List.set_cons_zero, List.set_cons_succ])
  refine chain_is ?sg6n5 ?rg6n5
  case sg6n5 =>
    intro w hbw hd K Q' hK
    clear hd
    go_simp
    refine (at_any 5 9 (-1) _).mono ?_
    rintro e x22 ⟨rfl, hx22⟩
    go_wp2_with fail
    refine hK.out (.agg #[.int .i64 5, .int .i64 9, .int .i64 (-1)]) _ _ ?_ ?_ rfl
    · (simp only [Act.put, List.setIfInBounds_toArray, List.set_cons_zero, List.set_cons_succ])
    · exact (by repeat' (first | with_reducible exact Below.refl _ _ | with_reducible assumption | with_reducible apply Below.drew | with_reducible apply below_drewN | with_reducible apply Below.alloc | with_reducible apply Below.setCell | (with_reducible refine Below.trans ?_ (Below.mono (by assumption) ?_)) | (simp; done) | (simp; omega) | omega | with_reducible apply le_size_alloc | with_reducible apply le_size_drewN | with_reducible apply le_size_drew | with_reducible apply le_size_setCell | refine Nat.le_trans ?_ (Below.size (by assumption))))
  (try simp only [Act.put, List.setIfInBounds_toArray, List.set_cons_zero, List.set_cons_succ])
  refine chain_has ?sg6n6 (fun vg6n6 => ?rg6n6)
  case sg6n6 =>
    intro w hbw hd K Q' hK
    clear hd
    go_simp
    refine hK.out (.slice (some ⟨w.heap.size, 0, none⟩) 1 1) _ _ ?_ ?_ ?_
    · (simp only [Act.put, List.setIfInBounds_toArray, List.set_cons_zero, List.set_cons_succ])
    · exact (by repeat' (first | with_reducible exact Below.refl _ _ | with_reducible assumption | with_reducible apply Below.drew | with_reducible apply below_drewN | with_reducible apply Below.alloc | with_reducible apply Below.setCell | (with_reducible refine Below.trans ?_ (Below.mono (by assumption) ?_)) | (simp; done) | (simp; omega) | omega | with_reducible apply le_size_alloc | with_reducible apply le_size_drewN | with_reducible apply le_size_drew | with_reducible apply le_size_setCell | refine Nat.le_trans ?_ (Below.size (by assumption))))
    · exact ⟨_, rfl, Blk.new_ rfl rfl⟩
  (try simp only [Act.put, List.setIfInBounds_toArray, List.set_cons_zero, List.set_cons_succ])
  refine chain_is ?sg6n7 ?rg6n7
  case sg6n7 =>
    intro w hbw hd K Q' hK
    obtain ⟨g, rfl, kg⟩ : LitS 3 1 [.int .i64 5] _ w := hd 6 _ _ (by rfl) rfl rfl
    clear hd
    go_simp
    refine (goes_true 4 5 9 4 (-1) 5 9 (-1) 9 _ _ [5] _ (HLW.out.ext hbw) (by decide) (Sl.of_lit (t := 3) (xs := [5]) kg) (by simp)).mono ?_
    rintro e x23 ⟨rfl, hx23⟩
    go_wp2_with fail
    refine hK.out (.bool true) _ _ ?_ ?_ rfl
    · (simp only [Act.put, List.setIfInBounds_toArray, List.set_cons_zero, List.set_cons_succ])
    · exact (by repeat' (first | with_reducible exact Below.refl _ _ | with_reducible assumption | with_reducible apply Below.drew | with_reducible apply below_drewN | with_reducible apply Below.alloc | with_reducible apply Below.setCell | (with_reducible refine Below.trans ?_ (Below.mono (by assumption) ?_)) | (simp; done) | (simp; omega) | omega | with_reducible apply le_size_alloc | with_reducible apply le_size_drewN | with_reducible apply le_size_drew | with_reducible apply le_size_setCell | refine Nat.le_trans ?_ (Below.size (by assumption))))
  (try simp only [Act.put, List.setIfInBounds_toArray, List.set_cons_zero, List.set_cons_succ])
  refine chain_is (step_take (by rfl) ?yg6n8) ?rg6n8
  case yg6n8 =>
    intro w hbw hd
    clear hd
    go_simp
    first | done | with_reducible rfl
  (try simp only [Act.put, List.setIfInBounds_toArray, List.set_cons_zero, List.set_cons_succ])
  refine chain_is (step_take (by rfl) ?yg6n9) ?rg6n9
  case yg6n9 =>
    intro w hbw hd
    clear hd
    go_simp
    first | done | with_reducible rfl
  (try simp only [Act.put, List.setIfInBounds_toArray, List.set_cons_zero, List.set_cons_succ])
  refine chain_is ?sg6n10 ?rg6n10
  case sg6n10 =>
    intro w hbw hd K Q' hK
    clear hd
    go_simp
    refine (at_any 4 5 9 _).mono ?_
    rintro e x24 ⟨rfl, hx24⟩
    go_wp2_with fail
    refine hK.out (.agg #[.int .i64 4, .int .i64 5, .int .i64 9]) _ _ ?_ ?_ rfl
    · (simp only [Act.put, List.setIfInBounds_toArray, List.set_cons_zero, List.set_cons_succ])
    · exact (by repeat' (first | with_reducible exact Below.refl _ _ | with_reducible assumption | with_reducible apply Below.drew | with_reducible apply below_drewN | with_reducible apply Below.alloc | with_reducible apply Below.setCell | (with_reducible refine Below.trans ?_ (Below.mono (by assumption) ?_)) | (simp; done) | (simp; omega) | omega | with_reducible apply le_size_alloc | with_reducible apply le_size_drewN | with_reducible apply le_size_drew | with_reducible apply le_size_setCell | refine Nat.le_trans ?_ (Below.size (by assumption))))
  (try simp only [Act.put, List.setIfInBounds_toArray, List.set_cons_zero, List.set_cons_succ])
  refine chain_is ?sg6n11 ?rg6n11
  case sg6n11 =>
    intro w hbw hd K Q' hK
    clear hd
    go_simp
    refine (at_any 7 (-1) 9 _).mono ?_
    rintro e x25 ⟨rfl, hx25⟩
    go_wp2_with fail
    refine hK.out (.agg #[.int .i64 7, .int .i64 (-1), .int .i64 9]) _ _ ?_ ?_ rfl
    · (simp only [Act.put, List.setIfInBounds_toArray, List.set_cons_zero, List.set_cons_succ])
    · exact (by repeat' (first | with_reducible exact Below.refl _ _ | with_reducible assumption | with_reducible apply Below.drew | with_reducible apply below_drewN | with_reducible apply Below.alloc | with_reducible apply Below.setCell | (with_reducible refine Below.trans ?_ (Below.mono (by assumption) ?_)) | (simp; done) | (simp; omega) | omega | with_reducible apply le_size_alloc | with_reducible apply le_size_drewN | with_reducible apply le_size_drew | with_reducible apply le_size_setCell | refine Nat.le_trans ?_ (Below.size (by assumption))))
  (try simp only [Act.put, List.setIfInBounds_toArray, List.set_cons_zero, List.set_cons_succ])
  refine chain_has ?sg6n12 (fun vg6n12 => ?rg6n12)
  case sg6n12 =>
    intro w hbw hd K Q' hK
    clear hd
    go_simp
    refine hK.out (.slice (some ⟨w.heap.size, 0, none⟩) 1 1) _ _ ?_ ?_ ?_
    · (simp only [Act.put, List.setIfInBounds_toArray, List.set_cons_zero, List.set_cons_succ])
    · exact (by repeat' (first | with_reducible exact Below.refl _ _ | with_reducible assumption | with_reducible apply Below.drew | with_reducible apply below_drewN | with_reducible apply Below.alloc | with_reducible apply Below.setCell | (with_reducible refine Below.trans ?_ (Below.mono (by assumption) ?_)) | (simp; done) | (simp; omega) | omega | with_reducible apply le_size_alloc | with_reducible apply le_size_drewN | with_reducible apply le_size_drew | with_reducible apply le_size_setCell | refine Nat.le_trans ?_ (Below.size (by assumption))))
    · exact ⟨_, rfl, Blk.new_ rfl rfl⟩
  (try simp only [Act.put, List.setIfInBounds_toArray, List.set_cons_zero, List.set_cons_succ])
  refine chain_is ?sg6n13 ?rg6n13
  case sg6n13 =>
    intro w hbw hd K Q' hK
    obtain ⟨g, rfl, kg⟩ : LitS 3 1 [.int .i64 5] _ w := hd 12 _ _ (by rfl) rfl rfl
    clear hd
    go_simp
    refine (goes_true 4 5 9 6 (-1) 7 (-1) 9 (-1) _ _ [5] _ (HLW.out.ext hbw) (by decide) (Sl.of_lit (t := 3) (xs := [5]) kg) (by simp)).mono ?_
    rintro e x26 ⟨rfl, hx26⟩
    go_wp2_with fail
    refine hK.out (.bool true) _ _ ?_ ?_ rfl
    · (simp only [Act.put, List.setIfInBounds_toArray, List.set_cons_zero, List.set_cons_succ])
    · exact (by repeat' (first | with_reducible exact Below.refl _ _ | with_reducible assumption | with_reducible apply Below.drew | with_reducible apply below_drewN | with_reducible apply Below.alloc | with_reducible apply Below.setCell | (with_reducible refine Below.trans ?_ (Below.mono (by assumption) ?_)) | (simp; done) | (simp; omega) | omega | with_reducible apply le_size_alloc | with_reducible apply le_size_drewN | with_reducible apply le_size_drew | with_reducible apply le_size_setCell | refine Nat.le_trans ?_ (Below.size (by assumption))))
  (try simp only [Act.put, List.setIfInBounds_toArray, List.set_cons_zero, List.set_cons_succ])
  refine chain_is (step_take (by rfl) ?yg6n14) ?rg6n14
  case yg6n14 =>
    intro w hbw hd
    clear hd
    go_simp
    first | done | with_reducible rfl
  (try simp only [Act.put, List.setIfInBounds_toArray, List.set_cons_zero, List.set_cons_succ])
  refine chain_is (step_take (by rfl) ?yg6n15) ?rg6n15
  case yg6n15 =>
    intro w hbw hd
    clear hd
    go_simp
    first | done | with_reducible rfl
  (try simp only [Act.put, List.setIfInBounds_toArray, List.set_cons_zero, List.set_cons_succ])
  refine chain_is ?sg6n16 ?rg6n16
  case sg6n16 =>
    intro w hbw hd K Q' hK
    clear hd
    go_simp
    refine (at_any 7 (-1) 9 _).mono ?_
    rintro e x27 ⟨rfl, hx27⟩
    go_wp2_with fail
    refine hK.out (.agg #[.int .i64 7, .int .i64 (-1), .int .i64 9]) _ _ ?_ ?_ rfl
    · (simp only [Act.put, List.setIfInBounds_toArray, List.set_cons_zero, List.set_cons_succ])
    · exact (by repeat' (first | with_reducible exact Below.refl _ _ | with_reducible assumption | with_reducible apply Below.drew | with_reducible apply below_drewN | with_reducible apply Below.alloc | with_reducible apply Below.setCell | (with_reducible refine Below.trans ?_ (Below.mono (by assumption) ?_)) | (simp; done) | (simp; omega) | omega | with_reducible apply le_size_alloc | with_reducible apply le_size_drewN | with_reducible apply le_size_drew | with_reducible apply le_size_setCell | refine Nat.le_trans ?_ (Below.size (by assumption))))
  (try simp only [Act.put, List.setIfInBounds_toArray, List.set_cons_zero, List.set_cons_succ])
  refine chain_is ?sg6n17 ?rg6n17
  case sg6n17 =>
    intro w hbw hd K Q' hK
    clear hd
    go_simp
    refine (at_any 7 (-1) (-1) _).mono ?_
    rintro e x28 ⟨rfl, hx28⟩
    go_wp2_with fail
    refine hK.out (.agg #[.int .i64 7, .int .i64 (-1), .int .i64 (-1)]) _ _ ?_ ?_ rfl
    · (simp only [Act.put, List.setIfInBounds_toArray, List.set_cons_zero, List.set_cons_succ])
    · exact (by repeat' (first | with_reducible exact Below.refl _ _ | with_reducible assumption | with_reducible apply Below.drew | with_reducible apply below_drewN | with_reducible apply Below.alloc | with_reducible apply Below.setCell | (with_reducible refine Below.trans ?_ (Below.mono (by assumption) ?_)) | (simp; done) | (simp; omega) | omega | with_reducible apply le_size_alloc | with_reducible apply le_size_drewN | with_reducible apply le_size_drew | with_reducible apply le_size_setCell | refine Nat.le_trans ?_ (Below.size (by assumption))))
  (try simp only [Act.put, List.setIfInBounds_toArray, List.set_cons_zero, List.set_cons_succ])
  refine chain_has ?sg6n18 (fun vg6n18 => ?rg6n18)
  case sg6n18 =>
    intro w hbw hd K Q' hK
    clear hd
    go_simp
    refine hK.out (.slice (some ⟨w.heap.size, 0, none⟩) 1 1) _ _ ?_ ?_ ?_
    · (simp only [Act.put, List.setIfInBounds_toArray, List.set_cons_zero, List.set_cons_succ])
    · exact (by repeat' (first | with_reducible exact Below.refl _ _ | with_reducible assumption | with_reducible apply Below.drew | with_reducible apply below_drewN | with_reducible apply Below.alloc | with_reducible apply Below.setCell | (with_reducible refine Below.trans ?_ (Below.mono (by assumption) ?_)) | (simp; done) | (simp; omega) | omega | with_reducible apply le_size_alloc | with_reducible apply le_size_drewN | with_reducible apply le_size_drew | with_reducible apply le_size_setCell | refine Nat.le_trans ?_ (Below.size (by assumption))))
    · exact ⟨_, rfl, Blk.new_ rfl rfl⟩
  (try simp only [Act.put, List.setIfInBounds_toArray, List.set_cons_zero, List.set_cons_succ])
  refine chain_is ?sg6n19 ?rg6n19
  case sg6n19 =>
    intro w hbw hd K Q' hK
    obtain ⟨g, rfl, kg⟩ : LitS 3 1 [.int .i64 9] _ w := hd 18 _ _ (by rfl) rfl rfl
    clear hd
    go_simp
    refine (goes_true 7 (-1) 9 4 (-1) 7 (-1) (-1) (-1) _ _ [9] _ (HLW.out.ext hbw) (by decide) (Sl.of_lit (t := 3) (xs := [9]) kg) (by simp)).mono ?_
    rintro e x29 ⟨rfl, hx29⟩
    go_wp2_with fail
    refine hK.out (.bool true) _ _ ?_ ?_ rfl
    · (simp only [Act.put, List.setIfInBounds_toArray, List.set_cons_zero, List.set_cons_succ])
    · exact (by repeat' (first | with_reducible exact Below.refl _ _ | with_reducible assumption | with_reducible apply Below.drew | with_reducible apply below_drewN | with_reducible apply Below.alloc | with_reducible apply Below.setCell | (with_reducible refine Below.trans ?_ (Below.mono (by assumption) ?_)) | (simp; done) | (simp; omega) | omega | with_reducible apply le_size_alloc | with_reducible apply le_size_drewN | with_reducible apply le_size_drew | with_reducible apply le_size_setCell | refine Nat.le_trans ?_ (Below.size (by assumption))))
  (try simp only [Act.put, List.setIfInBounds_toArray, List.set_cons_zero, List.set_cons_succ])
  refine chain_is (step_take (by rfl) ?yg6n20) ?rg6n20
  case yg6n20 =>
    intro w hbw hd
    clear hd
    go_simp
    first | done | with_reducible rfl
  (try simp only [Act.put, List.setIfInBounds_toArray, List.set_cons_zero, List.set_cons_succ])
  refine chain_is (step_take (by rfl) ?yg6n21) ?rg6n21
  case yg6n21 =>
    intro w hbw hd
    clear hd
    go_simp
    first | done | with_reducible rfl
  (try simp only [Act.put, List.setIfInBounds_toArray, List.set_cons_zero, List.set_cons_succ])
  refine chain_end (fun wz hbz hd => ?_)
  clear hd
  have B31 : Below Z.heap.size Z wz := BW.trans (hbz.mono BW.size)
  clear B18 BW hbz hb0 hz0 HLW qboth0 qboth1 qboth2 zboth
  obtain ⟨x30, rfl⟩ : ∃ x30 : World, x30 = wz := ⟨_, rfl⟩
  go_wp2_with fail
  refine (at_any 3 5 (-1) _).mono ?_
  rintro e x32 ⟨rfl, hx32⟩
  have B33 : Below Z.heap.size Z x32 := (by repeat' (first | with_reducible exact Below.refl _ _ | with_reducible assumption | with_reducible apply Below.drew | with_reducible apply below_drewN | with_reducible apply Below.alloc | with_reducible apply Below.setCell | (with_reducible refine Below.trans ?_ (Below.mono (by assumption) ?_)) | (simp; done) | (simp; omega) | omega | with_reducible apply le_size_alloc | with_reducible apply le_size_drewN | with_reducible apply le_size_drew | with_reducible apply le_size_setCell | refine Nat.le_trans ?_ (Below.size (by assumption))))
  clear B31 hx32
  go_wp2_with fail
  refine (at_any 6 5 (-1) _).mono ?_
  rintro e x34 ⟨rfl, hx34⟩
  have B35 : Below Z.heap.size Z x34 := (by repeat' (first | with_reducible exact Below.refl _ _ | with_reducible assumption | with_reducible apply Below.drew | with_reducible apply below_drewN | with_reducible apply Below.alloc | with_reducible apply Below.setCell | (with_reducible refine Below.trans ?_ (Below.mono (by assumption) ?_)) | (simp; done) | (simp; omega) | omega | with_reducible apply le_size_alloc | with_reducible apply le_size_drewN | with_reducible apply le_size_drew | with_reducible apply le_size_setCell | refine Nat.le_trans ?_ (Below.size (by assumption))))
  clear B33 hx34
  go_wp2_with fail
  refine (goes_true 3 5 (-1) 6 (-1) 6 5 (-1) (-1) none 0 [] _ (HL.out.ext (by repeat' (first | with_reducible exact Below.refl _ _ | with_reducible assumption | with_reducible apply Below.drew | with_reducible apply below_drewN | with_reducible apply Below.alloc | with_reducible apply Below.setCell | (with_reducible refine Below.trans ?_ (Below.mono (by assumption) ?_)) | (simp; done) | (simp; omega) | omega | with_reducible apply le_size_alloc | with_reducible apply le_size_drewN | with_reducible apply le_size_drew | with_reducible apply le_size_setCell | refine Nat.le_trans ?_ (Below.size (by assumption))))) (by decide) Sl.nil (by simp)).mono ?_
  rintro e x36 ⟨rfl, hx36⟩
  have B37 : Below Z.heap.size Z x36 := (by repeat' (first | with_reducible exact Below.refl _ _ | with_reducible assumption | with_reducible apply Below.drew | with_reducible apply below_drewN | with_reducible apply Below.alloc | with_reducible apply Below.setCell | (with_reducible refine Below.trans ?_ (Below.mono (by assumption) ?_)) | (simp; done) | (simp; omega) | omega | with_reducible apply le_size_alloc | with_reducible apply le_size_drewN | with_reducible apply le_size_drew | with_reducible apply le_size_setCell | refine Nat.le_trans ?_ (Below.size (by assumption))))
  clear B35 hx36
  go_wp2_with fail
  refine (at_any 6 5 (-1) _).mono ?_
  rintro e x38 ⟨rfl, hx38⟩
  have B39 : Below Z.heap.size Z x38 := (by repeat' (first | with_reducible exact Below.refl _ _ | with_reducible assumption | with_reducible apply Below.drew | with_reducible apply below_drewN | with_reducible apply Below.alloc | with_reducible apply Below.setCell | (with_reducible refine Below.trans ?_ (Below.mono (by assumption) ?_)) | (simp; done) | (simp; omega) | omega | with_reducible apply le_size_alloc | with_reducible apply le_size_drewN | with_reducible apply le_size_drew | with_reducible apply le_size_setCell | refine Nat.le_trans ?_ (Below.size (by assumption))))
  clear B37 hx38
  go_wp2_with fail
  refine (at_any 8 (-1) (-1) _).mono ?_
  rintro e x40 ⟨rfl, hx40⟩
  have B41 : Below Z.heap.size Z x40 := (by repeat' (first | with_reducible exact Below.refl _ _ | with_reducible assumption | with_reducible apply Below.drew | with_reducible apply below_drewN | with_reducible apply Below.alloc | with_reducible apply Below.setCell | (with_reducible refine Below.trans ?_ (Below.mono (by assumption) ?_)) | (simp; done) | (simp; omega) | omega | with_reducible apply le_size_alloc | with_reducible apply le_size_drewN | with_reducible apply le_size_drew | with_reducible apply le_size_setCell | refine Nat.le_trans ?_ (Below.size (by assumption))))
  clear B39 hx40
  go_wp2_with fail
  refine (goes_true 6 5 (-1) 5 (-1) 8 (-1) (-1) (-1) _ _ [5] _ (HL.out.ext (by repeat' (first | with_reducible exact Below.refl _ _ | with_reducible assumption | with_reducible apply Below.drew | with_reducible apply below_drewN | with_reducible apply Below.alloc | with_reducible apply Below.setCell | (with_reducible refine Below.trans ?_ (Below.mono (by assumption) ?_)) | (simp; done) | (simp; omega) | omega | with_reducible apply le_size_alloc | with_reducible apply le_size_drewN | with_reducible apply le_size_drew | with_reducible apply le_size_setCell | refine Nat.le_trans ?_ (Below.size (by assumption))))) (by decide) (Sl.of_lit (t := 3) (xs := [5]) (by repeat' (first | with_reducible assumption | (with_reducible refine Blk.new_ ?_ ?_ <;> first | (simp; done) | rfl) | with_reducible apply Blk.drew_ | with_reducible apply Blk.drewN_ | with_reducible apply Blk.alloc_ | with_reducible refine Blk.far_ ?_ ?_ _ | (with_reducible refine Blk.below_ ?_ (by assumption) ?_) | (simp; done) | (simp; omega) | omega | with_reducible apply le_size_alloc | with_reducible apply lt_size_alloc | with_reducible apply le_size_drewN | with_reducible apply le_size_drew | with_reducible apply le_size_setCell | refine Nat.lt_of_lt_of_le ?_ (Below.size (by assumption)) | refine Nat.le_trans ?_ (Below.size (by assumption))))) (by simp)).mono ?_
  rintro e x42 ⟨rfl, hx42⟩
  have B43 : Below Z.heap.size Z x42 := (by repeat' (first | with_reducible exact Below.refl _ _ | with_reducible assumption | with_reducible apply Below.drew | with_reducible apply below_drewN | with_reducible apply Below.alloc | with_reducible apply Below.setCell | (with_reducible refine Below.trans ?_ (Below.mono (by assumption) ?_)) | (simp; done) | (simp; omega) | omega | with_reducible apply le_size_alloc | with_reducible apply le_size_drewN | with_reducible apply le_size_drew | with_reducible apply le_size_setCell | refine Nat.le_trans ?_ (Below.size (by assumption))))
  clear B41 hx42
  have k0 : x42.cell? ⟨w1.heap.size, 0, none⟩ = some (.int .i64 1) := ((HK.out.1.below_ B43 l1).cell_ 0).trans (by simp)
  have k1 : x42.cell? ⟨w1.heap.size, 1, none⟩ = some (.int .i64 (-1)) := ((HK.out.1.below_ B43 l1).cell_ 1).trans (by simp)
  have k2 : x42.cell? ⟨w1.heap.size, 2, none⟩ = some (.int .i64 (-1)) := ((HK.out.1.below_ B43 l1).cell_ 2).trans (by simp)
  go_wp2_with fail
  refine (refused_any 1 (-1) (-1) 3 (-1) 9 _ (HL.out.ext (by repeat' (first | with_reducible exact Below.refl _ _ | with_reducible assumption | with_reducible apply Below.drew | with_reducible apply below_drewN | with_reducible apply Below.alloc | with_reducible apply Below.setCell | (with_reducible refine Below.trans ?_ (Below.mono (by assumption) ?_)) | (simp; done) | (simp; omega) | omega | with_reducible apply le_size_alloc | with_reducible apply le_size_drewN | with_reducible apply le_size_drew | with_reducible apply le_size_setCell | refine Nat.le_trans ?_ (Below.size (by assumption))))) (by decide)).mono ?_
  rintro e x44 ⟨rfl, hx44⟩
  clear k0 k1 k2
  have B45 : Below Z.heap.size Z x44 := (by repeat' (first | with_reducible exact Below.refl _ _ | with_reducible assumption | with_reducible apply Below.drew | with_reducible apply below_drewN | with_reducible apply Below.alloc | with_reducible apply Below.setCell | (with_reducible refine Below.trans ?_ (Below.mono (by assumption) ?_)) | (simp; done) | (simp; omega) | omega | with_reducible apply le_size_alloc | with_reducible apply le_size_drewN | with_reducible apply le_size_drew | with_reducible apply le_size_setCell | refine Nat.le_trans ?_ (Below.size (by assumption))))
  clear B43 hx44
  have k0 : x44.cell? ⟨w2.heap.size, 0, none⟩ = some (.int .i64 1) := ((HK.out.2.1.below_ B45 l2).cell_ 0).trans (by simp)
  have k1 : x44.cell? ⟨w2.heap.size, 1, none⟩ = some (.int .i64 (-1)) := ((HK.out.2.1.below_ B45 l2).cell_ 1).trans (by simp)
  have k2 : x44.cell? ⟨w2.heap.size, 2, none⟩ = some (.int .i64 9) := ((HK.out.2.1.below_ B45 l2).cell_ 2).trans (by simp)
  go_wp2_with fail
  refine (refused_any 1 (-1) 9 1 5 9 _ (HL.out.ext (by repeat' (first | with_reducible exact Below.refl _ _ | with_reducible assumption | with_reducible apply Below.drew | with_reducible apply below_drewN | with_reducible apply Below.alloc | with_reducible apply Below.setCell | (with_reducible refine Below.trans ?_ (Below.mono (by assumption) ?_)) | (simp; done) | (simp; omega) | omega | with_reducible apply le_size_alloc | with_reducible apply le_size_drewN | with_reducible apply le_size_drew | with_reducible apply le_size_setCell | refine Nat.le_trans ?_ (Below.size (by assumption))))) (by decide)).mono ?_
  rintro e x46 ⟨rfl, hx46⟩
  clear k0 k1 k2
  have B47 : Below Z.heap.size Z x46 := (by repeat' (first | with_reducible exact Below.refl _ _ | with_reducible assumption | with_reducible apply Below.drew | with_reducible apply below_drewN | with_reducible apply Below.alloc | with_reducible apply Below.setCell | (with_reducible refine Below.trans ?_ (Below.mono (by assumption) ?_)) | (simp; done) | (simp; omega) | omega | with_reducible apply le_size_alloc | with_reducible apply le_size_drewN | with_reducible apply le_size_drew | with_reducible apply le_size_setCell | refine Nat.le_trans ?_ (Below.size (by assumption))))
  clear B45 hx46
  have k0 : x46.cell? ⟨w1.heap.size, 0, none⟩ = some (.int .i64 1) := ((HK.out.1.below_ B47 l1).cell_ 0).trans (by simp)
  have k1 : x46.cell? ⟨w1.heap.size, 1, none⟩ = some (.int .i64 (-1)) := ((HK.out.1.below_ B47 l1).cell_ 1).trans (by simp)
  have k2 : x46.cell? ⟨w1.heap.size, 2, none⟩ = some (.int .i64 (-1)) := ((HK.out.1.below_ B47 l1).cell_ 2).trans (by simp)
  go_wp2_with fail
  refine (refused_any 1 (-1) (-1) 7 (-1) 16 _ (HL.out.ext (by repeat' (first | with_reducible exact Below.refl _ _ | with_reducible assumption | with_reducible apply Below.drew | with_reducible apply below_drewN | with_reducible apply Below.alloc | with_reducible apply Below.setCell | (with_reducible refine Below.trans ?_ (Below.mono (by assumption) ?_)) | (simp; done) | (simp; omega) | omega | with_reducible apply le_size_alloc | with_reducible apply le_size_drewN | with_reducible apply le_size_drew | with_reducible apply le_size_setCell | refine Nat.le_trans ?_ (Below.size (by assumption))))) (by decide)).mono ?_
  rintro e x48 ⟨rfl, hx48⟩
  clear k0 k1 k2
  have B49 : Below Z.heap.size Z x48 := (by repeat' (first | with_reducible exact Below.refl _ _ | with_reducible assumption | with_reducible apply Below.drew | with_reducible apply below_drewN | with_reducible apply Below.alloc | with_reducible apply Below.setCell | (with_reducible refine Below.trans ?_ (Below.mono (by assumption) ?_)) | (simp; done) | (simp; omega) | omega | with_reducible apply le_size_alloc | with_reducible apply le_size_drewN | with_reducible apply le_size_drew | with_reducible apply le_size_setCell | refine Nat.le_trans ?_ (Below.size (by assumption))))
  clear B47 hx48
  have k0 : x48.cell? ⟨w1.heap.size, 0, none⟩ = some (.int .i64 1) := ((HK.out.1.below_ B49 l1).cell_ 0).trans (by simp)
  have k1 : x48.cell? ⟨w1.heap.size, 1, none⟩ = some (.int .i64 (-1)) := ((HK.out.1.below_ B49 l1).cell_ 1).trans (by simp)
  have k2 : x48.cell? ⟨w1.heap.size, 2, none⟩ = some (.int .i64 (-1)) := ((HK.out.1.below_ B49 l1).cell_ 2).trans (by simp)
  go_wp2_with fail
  refine (refused_any 1 (-1) (-1) 1 (-1) 2 _ (HL.out.ext (by repeat' (first | with_reducible exact Below.refl _ _ | with_reducible assumption | with_reducible apply Below.drew | with_reducible apply below_drewN | with_reducible apply Below.alloc | with_reducible apply Below.setCell | (with_reducible refine Below.trans ?_ (Below.mono (by assumption) ?_)) | (simp; done) | (simp; omega) | omega | with_reducible apply le_size_alloc | with_reducible apply le_size_drewN | with_reducible apply le_size_drew | with_reducible apply le_size_setCell | refine Nat.le_trans ?_ (Below.size (by assumption))))) (by decide)).mono ?_
  rintro e x50 ⟨rfl, hx50⟩
  clear k0 k1 k2
  have B51 : Below Z.heap.size Z x50 := (by repeat' (first | with_reducible exact Below.refl _ _ | with_reducible assumption | with_reducible apply Below.drew | with_reducible apply below_drewN | with_reducible apply Below.alloc | with_reducible apply Below.setCell | (with_reducible refine Below.trans ?_ (Below.mono (by assumption) ?_)) | (simp; done) | (simp; omega) | omega | with_reducible apply le_size_alloc | with_reducible apply le_size_drewN | with_reducible apply le_size_drew | with_reducible apply le_size_setCell | refine Nat.le_trans ?_ (Below.size (by assumption))))
  clear B49 hx50
  have k0 : x50.cell? ⟨w1.heap.size, 0, none⟩ = some (.int .i64 1) := ((HK.out.1.below_ B51 l1).cell_ 0).trans (by simp)
  have k1 : x50.cell? ⟨w1.heap.size, 1, none⟩ = some (.int .i64 (-1)) := ((HK.out.1.below_ B51 l1).cell_ 1).trans (by simp)
  have k2 : x50.cell? ⟨w1.heap.size, 2, none⟩ = some (.int .i64 (-1)) := ((HK.out.1.below_ B51 l1).cell_ 2).trans (by simp)
  go_wp2_with fail
  refine (Needs_any 1 (-1) (-1) _).mono ?_
  rw [ne1.out]
  rintro e x52 ⟨rfl, hx52⟩
  clear k0 k1 k2
  have B53 : Below Z.heap.size Z x52 := (by repeat' (first | with_reducible exact Below.refl _ _ | with_reducible assumption | with_reducible apply Below.drew | with_reducible apply below_drewN | with_reducible apply Below.alloc | with_reducible apply Below.setCell | (with_reducible refine Below.trans ?_ (Below.mono (by assumption) ?_)) | (simp; done) | (simp; omega) | omega | with_reducible apply le_size_alloc | with_reducible apply le_size_drewN | with_reducible apply le_size_drew | with_reducible apply le_size_setCell | refine Nat.le_trans ?_ (Below.size (by assumption))))
  clear B51 hx52
  have k0 : x52.cell? ⟨w1.heap.size, 0, none⟩ = some (.int .i64 1) := ((HK.out.1.below_ B53 l1).cell_ 0).trans (by simp)
  have k1 : x52.cell? ⟨w1.heap.size, 1, none⟩ = some (.int .i64 (-1)) := ((HK.out.1.below_ B53 l1).cell_ 1).trans (by simp)
  have k2 : x52.cell? ⟨w1.heap.size, 2, none⟩ = some (.int .i64 (-1)) := ((HK.out.1.below_ B53 l1).cell_ 2).trans (by simp)
  go_wp2_with fail
  refine (Shortest_any 1 (-1) (-1) _ (HL.out.ext (by repeat' (first | with_reducible exact Below.refl _ _ | with_reducible assumption | with_reducible apply Below.drew | with_reducible apply below_drewN | with_reducible apply Below.alloc | with_reducible apply Below.setCell | (with_reducible refine Below.trans ?_ (Below.mono (by assumption) ?_)) | (simp; done) | (simp; omega) | omega | with_reducible apply le_size_alloc | with_reducible apply le_size_drewN | with_reducible apply le_size_drew | with_reducible apply le_size_setCell | refine Nat.le_trans ?_ (Below.size (by assumption)))))).mono ?_
  unfold LsPost
  rw [sh1.out]
  rintro e x54 ⟨A3, c3, rfl, hi3, hx54⟩
  clear k0 k1 k2
  have B55 : Below Z.heap.size Z x54 := (by repeat' (first | with_reducible exact Below.refl _ _ | with_reducible assumption | with_reducible apply Below.drew | with_reducible apply below_drewN | with_reducible apply Below.alloc | with_reducible apply Below.setCell | (with_reducible refine Below.trans ?_ (Below.mono (by assumption) ?_)) | (simp; done) | (simp; omega) | omega | with_reducible apply le_size_alloc | with_reducible apply le_size_drewN | with_reducible apply le_size_drew | with_reducible apply le_size_setCell | refine Nat.le_trans ?_ (Below.size (by assumption))))
  clear B53 hx54
  have HI := Lib.hid hi3.1
  clear hi3
  simp only [List.length_cons, List.length_nil, Nat.reduceAdd]
  have BS : Hid (Below x54.heap.size x54 x54) := Below.refl _ _
  obtain ⟨S1, hS1⟩ : ∃ S1, S1 = x54 := ⟨_, rfl⟩
  rw [← hS1]
  have HS1 := Lib.hid hS1
  clear hS1 BS
  have C0 : Below Z.heap.size Z S1 := by rw [HS1.out]; exact B55
  have HI1 : Hid (Sl S1 (.int .i64) A3 [1, 3, 5]) := by show Sl _ _ _ _; rw [HS1.out]; exact HI.out
  clear B55 HI HS1
  have k0 : S1.cell? ⟨w2.heap.size, 0, none⟩ = some (.int .i64 1) := ((HK.out.2.1.below_ C0 l2).cell_ 0).trans (by simp)
  have k1 : S1.cell? ⟨w2.heap.size, 1, none⟩ = some (.int .i64 (-1)) := ((HK.out.2.1.below_ C0 l2).cell_ 1).trans (by simp)
  have k2 : S1.cell? ⟨w2.heap.size, 2, none⟩ = some (.int .i64 9) := ((HK.out.2.1.below_ C0 l2).cell_ 2).trans (by simp)
  go_wp2_with fail
  refine (Needs_any 1 (-1) 9 _).mono ?_
  rw [ne2.out]
  rintro e x56 ⟨rfl, hx56⟩
  clear k0 k1 k2
  have B57 : Below Z.heap.size Z x56 := (by repeat' (first | with_reducible exact Below.refl _ _ | with_reducible assumption | with_reducible apply Below.drew | with_reducible apply below_drewN | with_reducible apply Below.alloc | with_reducible apply Below.setCell | (with_reducible refine Below.trans ?_ (Below.mono (by assumption) ?_)) | (simp; done) | (simp; omega) | omega | with_reducible apply le_size_alloc | with_reducible apply le_size_drewN | with_reducible apply le_size_drew | with_reducible apply le_size_setCell | refine Nat.le_trans ?_ (Below.size (by assumption))))
  have D57 : Below S1.heap.size S1 x56 := (by repeat' (first | with_reducible exact Below.refl _ _ | with_reducible assumption | with_reducible apply Below.drew | with_reducible apply below_drewN | with_reducible apply Below.alloc | with_reducible apply Below.setCell | (with_reducible refine Below.trans ?_ (Below.mono (by assumption) ?_)) | (simp; done) | (simp; omega) | omega | with_reducible apply le_size_alloc | with_reducible apply le_size_drewN | with_reducible apply le_size_drew | with_reducible apply le_size_setCell | refine Nat.le_trans ?_ (Below.size (by assumption))))
  clear C0 hx56
  go_wp2_with fail
  refine (awake_any _ (HL.out.ext (by repeat' (first | with_reducible exact Below.refl _ _ | with_reducible assumption | with_reducible apply Below.drew | with_reducible apply below_drewN | with_reducible apply Below.alloc | with_reducible apply Below.setCell | (with_reducible refine Below.trans ?_ (Below.mono (by assumption) ?_)) | (simp; done) | (simp; omega) | omega | with_reducible apply le_size_alloc | with_reducible apply le_size_drewN | with_reducible apply le_size_drew | with_reducible apply le_size_setCell | refine Nat.le_trans ?_ (Below.size (by assumption)))))).mono ?_
  rintro e x58 ⟨rfl, hx58⟩
  go_wp2_with fail
  refine (SameInts_any A3 _ c3 _ [1, 3, 5] [1, 3, 5] _ (HI1.out.ext (by repeat' (first | with_reducible exact Below.refl _ _ | with_reducible assumption | with_reducible apply Below.drew | with_reducible apply below_drewN | with_reducible apply Below.alloc | with_reducible apply Below.setCell | (with_reducible refine Below.trans ?_ (Below.mono (by assumption) ?_)) | (simp; done) | (simp; omega) | omega | with_reducible apply le_size_alloc | with_reducible apply le_size_drewN | with_reducible apply le_size_drew | with_reducible apply le_size_setCell | refine Nat.le_trans ?_ (Below.size (by assumption))))) (Sl.of_lit (t := 3) (xs := [1, 3, 5]) (by repeat' (first | with_reducible assumption | (with_reducible refine Blk.new_ ?_ ?_ <;> first | (simp; done) | rfl) | with_reducible apply Blk.drew_ | with_reducible apply Blk.drewN_ | with_reducible apply Blk.alloc_ | with_reducible refine Blk.far_ ?_ ?_ _ | (with_reducible refine Blk.below_ ?_ (by assumption) ?_) | (simp; done) | (simp; omega) | omega | with_reducible apply le_size_alloc | with_reducible apply lt_size_alloc | with_reducible apply le_size_drewN | with_reducible apply le_size_drew | with_reducible apply le_size_setCell | refine Nat.lt_of_lt_of_le ?_ (Below.size (by assumption)) | refine Nat.le_trans ?_ (Below.size (by assumption))))) (by simp) (by simp)).mono ?_
  rw [decide_eq_true rfl]
  rintro e x59 ⟨rfl, hx59⟩
  go_wp2_with fail
  go_ret
  clear D57
  exact ⟨rfl, HZ.out.trans ((show Below Z.heap.size Z x59 from (by repeat' (first | with_reducible exact Below.refl _ _ | with_reducible assumption | with_reducible apply Below.drew | with_reducible apply below_drewN | with_reducible apply Below.alloc | with_reducible apply Below.setCell | (with_reducible refine Below.trans ?_ (Below.mono (by assumption) ?_)) | (simp; done) | (simp; omega) | omega | with_reducible apply le_size_alloc | with_reducible apply le_size_drewN | with_reducible apply le_size_drew | with_reducible apply le_size_setCell | refine Nat.le_trans ?_ (Below.size (by assumption))))).mono HZ.out.size)⟩

set_option maxRecDepth 100000 in
theorem readinKnown_lifted (os : Os) (started : os.Started) (H : Type) (enc : TypeId × Value → H) :
    ReturnsInHanded {} Tryd.checked os 3 .any (fun w args => (Rows.readinKnownSpec.pre enc Tryd.prog Tryd.f3 [] false w args ∧ laidMetH Tryd.prog laidV w) ∧ sizedMet enc Tryd.prog Tryd.f3 (OpenSpec.ofChange Rows.readinKnownSpec) false w args) (Rows.readinKnownSpec.post enc Tryd.prog Tryd.f3 false true false false) := by
  refine returnsInHanded_of_change_and (C := Tryd.checked) (X := fun w _ => laidMetH Tryd.prog laidV w) (fun _ _ _ hh h => h.of_heap hh) own started (by kernel_rfl) Tryd.func3
    (ChangeSpec.witness_shaped (enc := enc) (C := Tryd.checked) (os := os) (X := fun w _ => laidMetH Tryd.prog laidV w) false (World.doorLaid Tryd.prog 400 os) #[] 8 rfl (World.shaped_of_RefB (by kernel_rfl) (by kernel_rfl)) (by kernel_rfl) (by kernel_rfl) (by kernel_rfl) (door_met os _)) ?_
  intro W base args ds gs before hval0 hW hcnd _ hL _
  have hval : ∀ (j : Nat) t v, Tryd.f3.params[j]? = some t → args[j]? = some v → Value.okWide Tryd.prog W .any base t v := hval0
  have hW' := hW
  obtain ⟨p, q, hA0, hV, rfl, hfz, hnd⟩ := hW
  have hA : DataW.TrodAll enc Tryd.prog W 0 (fun _ => true) true Tryd.f3.params.toList args.toList ds p := hA0
  rw [Tryd.params3] at hA hval
  obtain ⟨rfl, rfl, rfl⟩ := trodAll_none hA
  obtain ⟨rfl, rfl⟩ := trodVars_none hV
  clear hA0 hval0
  refine (readinKnown_walk   W (of_laid hL)).mono fun e W' ⟨he, hb⟩ => ⟨_, he, ?_⟩
  exact law_post laidOut (s := Rows.readinKnownSpec) (B := 4) rfl rfl Tryd.underlying4 (by decide +kernel) hW' rfl hb

theorem readinKnown_holds : Rows.ReadinKnownSaid :=
  OpenClaim.holds_of_wide 3 Tryd.f3 rfl rfl rfl rfl rfl rfl rfl ⟨rfl, rfl, rfl, rfl, rfl⟩ rfl rfl rfl rfl rfl (by kernel_rfl) Tryd.func3 (by kernel_rfl)
    (of_decide_eq_true (by kernel_rfl)) (by unfold Func.isWrapper; first | (rw [if_pos (by decide +kernel)]; kernel_rfl) | (rw [if_neg (by decide +kernel)]; exact ⟨rfl, rfl⟩))
    (fun os started H enc _ => readinKnown_lifted os started H enc)

theorem readinKnown_card : Rows.ReadinKnownCardSaid :=
  Claim7.holds_tied_plain_at .later [] [.data] true Rows.readinKnownCard.stood.harness false
    readinKnown_holds (fun _ h => by cases h) (by kernel_rfl) (fun _ h => by cases h) readinKnown_row_tie rfl ⟨rfl, rfl⟩ (by kernel_rfl) rfl
    (fun f fn hf hfn => by
      obtain rfl : f = 3 := Option.some.inj ((show Tryd.prog.funcNamed "headgate/headgatelaw21.ReadinKnown" = some 3 by kernel_rfl).symm.trans hf) |>.symm
      obtain rfl : fn = Tryd.f3 := (Option.some.inj (Tryd.func3.symm.trans hfn)).symm
      exact ⟨by kernel_rfl, fun j t ht => by
        have hall : (Tryd.f3.params.toList.all fun u => !Tryd.prog.wantsStandIn u) = true := by kernel_rfl
        have hm : t ∈ Tryd.f3.params.toList := by simpa using Array.mem_of_getElem? ht
        exact (show Tryd.prog.wantsStandIn t = false by simpa using List.all_eq_true.1 hall t hm)⟩)
    (by kernel_rfl)

end Go.Proofs.YtngenoblifhnpaaDoor
