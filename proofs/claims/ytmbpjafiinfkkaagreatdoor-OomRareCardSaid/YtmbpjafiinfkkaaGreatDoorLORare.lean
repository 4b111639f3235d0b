/- OomRare: a kill only where nothing else is left. Written by gen_lor.py. -/
import Derived.Test.YtmbpjafiinfkkaaGreatDoorOW7
import Derived.Test.YtmbpjafiinfkkaaGreatDoorOWC
import Derived.Test.YtmbpjafiinfkkaaGreatDoorFree2
namespace Go.Proofs.YtmbpjafiinfkkaaGreatDoor
set_option linter.unusedSimpArgs false
set_option linter.unusedVariables false
open Go.RowKit Go.Maps
open Go.ChangeShapes Go.WideShapes Go.ChangeAt Go.Joins

set_option maxRecDepth 100000 in
set_option maxHeartbeats 16000000 in
theorem oomRare_walk (n slots free mapped fewer : Int) (_w0 : (Lit.int .i64 n).wf = true) (_w1 : (Lit.int .i64 slots).wf = true) (_w2 : (Lit.int .i64 free).wf = true) (_w3 : (Lit.int .i64 mapped).wf = true) (_w4 : (Lit.int .i64 fewer).wf = true) (w : World) (hal : AL w) :
    Calls Tryz.prog 8 #[.int .i64 n, .int .i64 slots, .int .i64 free, .int .i64 mapped, .int .i64 fewer] w fun e w' => e = .returned (.bool true) ∧ Below w.heap.size w w' := by
  have HAL := Lib.hid hal
  have hC := fun w => config_any w
  have hSf : ∀ m w, 0 ≤ m → m ≤ 512 → Calls Tryz.prog 27 #[cfgV 128 16 20 3 8 4 8 16 32, .int .i64 m] w fun e w' => e = .returned (.tuple #[.bool (safeB 128 20 87 m), .int .i64 0]) ∧ Below w.heap.size w w' := fun m w h0 h1 => by
    have := Safe_any 128 16 20 3 8 4 8 16 32 m w
    rw [awake_K.1, safe_ok h0 h1, if_pos rfl, awake_K.2.1] at this
    exact this
  generalize cfgV 128 16 20 3 8 4 8 16 32 = cfg at *
  have B : Below w.heap.size w w := Below.refl _ _
  clear hal
  go_enter Tryz.func8, Tryz.ntmps8
  go_wp2_with fail
  refine (oomKnown_walk _ HAL.out).mono ?_
  rintro e w1 ⟨rfl, hb1⟩
  go_wp2_with fail
  refine (tally_any n _).mono ?_
  rintro e w2 ⟨⟨t, ht, rfl⟩, hb2⟩
  have B2 : Below w.heap.size w w2 := hb1.trans (hb2.mono hb1.size)
  clear hb1 hb2
  have HT := Lib.hid ht
  have hA1 := fun w => Allowed_any t (tok_of ht.chk ht.tg) w
  rw [ht.chk] at hA1
  obtain ⟨a, ha⟩ : ∃ a, slots % 5 = a := ⟨_, rfl⟩
  obtain ⟨b, hb⟩ : ∃ b, free % 5 = b := ⟨_, rfl⟩
  have ha5 : 0 ≤ a ∧ a < 5 := by omega
  have hb5 : 0 ≤ b ∧ b < 5 := by omega
  have HA := Lib.hid ha; have HB := Lib.hid hb
  clear ha hb
  have hA2 := fun w => Allowed_any (moreT t a b) (tok_of (ht.chk_more ha5 hb5) ht.tg) w
  rw [ht.chk_more ha5 hb5] at hA2
  have hm := rare_more ht ha5 hb5
  have hi := rare_is ht
  obtain ⟨is, his⟩ : ∃ is, allB t = is := ⟨_, rfl⟩
  obtain ⟨was, hwas⟩ : ∃ was, allB (moreT t a b) = was := ⟨_, rfl⟩
  rw [his] at hA1 hm hi
  rw [hwas] at hA2 hm
  have hfr := ht.fr; have hsl := ht.sl
  unfold tlC at hA1 hA2 ⊢
  dsimp only [moreT] at hA2
  clear his hwas ht
  obtain ⟨V1, hV1⟩ : ∃ V1, w2.alloc (.cells #[.int .i64 t.fr, .int .i64 t.mn, .int .i64 t.lw, .int .i64 t.hi, .bool t.aw, .int .i64 t.ob, .int .i64 t.ac, .int .i64 t.ina, .int .i64 t.tg, .bool t.rf, .int .i64 t.wr, .int .i64 t.cp, .int .i64 t.orp, .int .i64 t.rm, .int .i64 t.sl] 44) = V1 := ⟨_, rfl⟩
  have k1 : Blk V1 w2.heap.size 44 #[.int .i64 t.fr, .int .i64 t.mn, .int .i64 t.lw, .int .i64 t.hi, .bool t.aw, .int .i64 t.ob, .int .i64 t.ac, .int .i64 t.ina, .int .i64 t.tg, .bool t.rf, .int .i64 t.wr, .int .i64 t.cp, .int .i64 t.orp, .int .i64 t.rm, .int .i64 t.sl] := by rw [← hV1]; exact Blk.new_ rfl rfl
  have BV1 : Below w.heap.size w V1 := by rw [← hV1]; exact (by repeat' (first | with_reducible exact Below.refl _ _ | with_reducible assumption | with_reducible apply Below.drew | with_reducible apply below_drewN | with_reducible apply Below.alloc | with_reducible apply Below.setCell | (with_reducible refine Below.trans ?_ (Below.mono (by assumption) ?_)) | (simp; done) | (simp; omega) | omega | with_reducible apply le_size_alloc | with_reducible apply le_size_drewN | with_reducible apply le_size_drew | with_reducible apply le_size_setCell | refine Nat.le_trans ?_ (Below.size (by assumption))))
  go_wp2_with (refine wpList_load_row rfl 44 _ rfl w2.heap.size rfl _ _ _ _ k1 Tryz.underlying44 rfl (by kernel_rfl) ?_)
  refine (hA1 _).mono ?_
  rintro e w3 ⟨rfl, hb3⟩
  have k3 := k1.below_ hb3 k1.lt
  have BW3 : Below w.heap.size w w3 := BV1.trans (hb3.mono BV1.size)
  have s23 : w2.heap.size < w3.heap.size := k3.lt
  have sw2 := B2.size
  clear hV1 k1 BV1 hA1 hb3
  obtain ⟨V2, hV2⟩ : ∃ V2, w3.alloc (.cells #[.int .i64 t.fr, .int .i64 t.mn, .int .i64 t.lw, .int .i64 t.hi, .bool t.aw, .int .i64 t.ob, .int .i64 t.ac, .int .i64 t.ina, .int .i64 t.tg, .bool t.rf, .int .i64 t.wr, .int .i64 t.cp, .int .i64 t.orp, .int .i64 t.rm, .int .i64 t.sl] 44) = V2 := ⟨_, rfl⟩
  have k1 : Blk V2 w2.heap.size 44 #[.int .i64 t.fr, .int .i64 t.mn, .int .i64 t.lw, .int .i64 t.hi, .bool t.aw, .int .i64 t.ob, .int .i64 t.ac, .int .i64 t.ina, .int .i64 t.tg, .bool t.rf, .int .i64 t.wr, .int .i64 t.cp, .int .i64 t.orp, .int .i64 t.rm, .int .i64 t.sl] := by rw [← hV2]; exact k3.alloc_ _
  have k2 : Blk V2 w3.heap.size 44 #[.int .i64 t.fr, .int .i64 t.mn, .int .i64 t.lw, .int .i64 t.hi, .bool t.aw, .int .i64 t.ob, .int .i64 t.ac, .int .i64 t.ina, .int .i64 t.tg, .bool t.rf, .int .i64 t.wr, .int .i64 t.cp, .int .i64 t.orp, .int .i64 t.rm, .int .i64 t.sl] := by rw [← hV2]; exact Blk.new_ rfl rfl
  have BW : Below w.heap.size w V2 := by rw [← hV2]; exact (by repeat' (first | with_reducible exact Below.refl _ _ | with_reducible assumption | with_reducible apply Below.drew | with_reducible apply below_drewN | with_reducible apply Below.alloc | with_reducible apply Below.setCell | (with_reducible refine Below.trans ?_ (Below.mono (by assumption) ?_)) | (simp; done) | (simp; omega) | omega | with_reducible apply le_size_alloc | with_reducible apply le_size_drewN | with_reducible apply le_size_drew | with_reducible apply le_size_setCell | refine Nat.le_trans ?_ (Below.size (by assumption))))
  have hw1 : IntKind.i64.wrap (t.sl + a) = t.sl + a := IntWalk.i64_in _ (by omega)
  have hw2 : IntKind.i64.wrap (t.fr + b) = t.fr + b := IntWalk.i64_in _ (by omega)
  go_wp2_with (refine wpList_load_row rfl 44 _ rfl w2.heap.size rfl _ _ _ _ k3 Tryz.underlying44 rfl (by kernel_rfl) ?_)
  clear hV2 k3 BW3
  refine wp_region_chain2 [0, 1, 0, 1, 0, 0, 3] [[], [], [], [], [], [], []] [.is ?fra0, .kn ?fra1, .is ?fra2, .kn (.int .i64 a), .is ?fra4, .is ?fra5, .late] (by rfl) (by rfl) (by kernel_rfl) (by kernel_rfl) (by kernel_rfl) (by kernel_rfl) (by kernel_rfl) (by kernel_rfl) (lts_is (lts_kn (lts_is (lts_kn (lts_is (lts_is (lts_late lts_nil))))))) (fun W0 hb0 hz0 => ?_)
  rotate_left 5
  rw [show lateIdx [0, 1, 0, 1, 0, 0, 3] = [6] from by rfl]
  have k1' := k1.below_ hb0 k1.lt
  have k2' := k2.below_ hb0 k2.lt
  refine chn_is (stp_pure (by rfl) ?yra0) ?rra0
  case yra0 =>
    intro w
    go_simp
    first | done | with_reducible rfl
  (try simp only [Act.put, List.setIfInBounds_toArray, List.set_cons_zero, List.set_cons_succ, List.nil_append, List.cons_append, Nat.reduceAdd])
  refine chn_kn (stp_take (by rfl) ?yra1) ?rra1
  case yra1 =>
    intro w hbw hd
    have q := (k1'.below_ hbw k1'.lt).cell_ 14
    simp at q
    clear hd
    go_simp
    first | done | with_reducible rfl
  (try simp only [Act.put, List.setIfInBounds_toArray, List.set_cons_zero, List.set_cons_succ, List.nil_append, List.cons_append, Nat.reduceAdd])
  refine chn_is (stp_pure (by rfl) ?yra2) ?rra2
  case yra2 =>
    intro w
    go_simp
    first | done | with_reducible rfl
  (try simp only [Act.put, List.setIfInBounds_toArray, List.set_cons_zero, List.set_cons_succ, List.nil_append, List.cons_append, Nat.reduceAdd])
  refine chn_kn ?sra3 ?rra3
  case sra3 =>
    intro w hbw hd K Q' hK
    clear hd
    go_simp
    (go_at_call 36; refine (Mod_any _ 5 _ (by decide) (by decide)).mono ?_; rintro e w' ⟨rfl, rfl⟩; rw [HA.out])
    refine hK.out (.int .i64 a) _ _ ?_ ?_ rfl
    · (simp only [Act.put, List.setIfInBounds_toArray, List.set_cons_zero, List.set_cons_succ, List.nil_append, List.cons_append, Nat.reduceAdd])
    · exact (by repeat' (first | with_reducible exact Below.refl _ _ | with_reducible assumption | with_reducible apply Below.drew | with_reducible apply below_drewN | with_reducible apply Below.alloc | with_reducible apply Below.setCell | (with_reducible refine Below.trans ?_ (Below.mono (by assumption) ?_)) | (simp; done) | (simp; omega) | omega | with_reducible apply le_size_alloc | with_reducible apply le_size_drewN | with_reducible apply le_size_drew | with_reducible apply le_size_setCell | with_reducible refine Nat.le_trans ?_ (Below.size (by assumption))))
  (try simp only [Act.put, List.setIfInBounds_toArray, List.set_cons_zero, List.set_cons_succ, List.nil_append, List.cons_append, Nat.reduceAdd])
  refine chn_is (stp_pure (by rfl) ?yra4) ?rra4
  case yra4 =>
    intro w
    go_simp
    first | done | with_reducible rfl
  (try simp only [Act.put, List.setIfInBounds_toArray, List.set_cons_zero, List.set_cons_succ, List.nil_append, List.cons_append, Nat.reduceAdd])
  refine chn_is (stp_pure (by rfl) ?yra5) ?rra5
  case yra5 =>
    intro w
    go_simp
    first | done | with_reducible rfl
  (try simp only [Act.put, List.setIfInBounds_toArray, List.set_cons_zero, List.set_cons_succ, List.nil_append, List.cons_append, Nat.reduceAdd])
  refine chn_late ?rra6
  (try simp only [Act.put, List.setIfInBounds_toArray, List.set_cons_zero, List.set_cons_succ, List.nil_append, List.cons_append, Nat.reduceAdd])
  refine chn_end (fun wz lo hi hbz hd hR => ?_)
  have k1z := k1'.below_ hbz k1'.lt
  have k2z := k2'.below_ hbz k2'.lt
  have zz2 := k2z.lt
  have bz : Below V2.heap.size V2 wz := hb0.trans (hbz.mono hb0.size)
  have c := k2z.cell_ 14
  have f := k2z.frozen_ 14
  simp at c
  clear hd hR k1' k2' hb0 hbz hz0
  refine late_one (by simp only [List.getElem?_toArray, List.getElem?_cons_succ, List.getElem?_cons_zero]; rfl) (fun K Q' hK => ?_)
  go_simp
  refine hK.out _ ?_
  clear hK K Q'
  have k2y := k2z.set_ 14 (.int .i64 (t.sl + a))
  have k1y := k1z.far_ (p := ⟨w3.heap.size, 14, none⟩) (by simp; omega) (.int .i64 (t.sl + a))
  have by_ : Below w.heap.size w (wz.setCell ⟨w3.heap.size, 14, none⟩ (.int .i64 (t.sl + a))) := Below.setCell (BW.trans (bz.mono BW.size)) (by simp; omega) _
  clear k1z k2z zz2 bz c f k1 k2 BW
  generalize wz.setCell ⟨w3.heap.size, 14, none⟩ (.int .i64 (t.sl + a)) = Z1 at k1y k2y by_ ⊢
  have k1 := k1y; have BW := by_
  have k2 : Blk Z1 w3.heap.size 44 #[.int .i64 t.fr, .int .i64 t.mn, .int .i64 t.lw, .int .i64 t.hi, .bool t.aw, .int .i64 t.ob, .int .i64 t.ac, .int .i64 t.ina, .int .i64 t.tg, .bool t.rf, .int .i64 t.wr, .int .i64 t.cp, .int .i64 t.orp, .int .i64 t.rm, .int .i64 (t.sl + a)] := k2y
  clear k1y k2y by_
  go_wp2_with fail
  refine wp_region_chain2 [0, 1, 0, 1, 0, 0, 3] [[], [], [], [], [], [], []] [.is ?frb0, .kn ?frb1, .is ?frb2, .kn (.int .i64 b), .is ?frb4, .is ?frb5, .late] (by rfl) (by rfl) (by kernel_rfl) (by kernel_rfl) (by kernel_rfl) (by kernel_rfl) (by kernel_rfl) (by kernel_rfl) (lts_is (lts_kn (lts_is (lts_kn (lts_is (lts_is (lts_late lts_nil))))))) (fun W0 hb0 hz0 => ?_)
  rotate_left 5
  rw [show lateIdx [0, 1, 0, 1, 0, 0, 3] = [6] from by rfl]
  have k1' := k1.below_ hb0 k1.lt
  have k2' := k2.below_ hb0 k2.lt
  refine chn_is (stp_pure (by rfl) ?yrb0) ?rrb0
  case yrb0 =>
    intro w
    go_simp
    first | done | with_reducible rfl
  (try simp only [Act.put, List.setIfInBounds_toArray, List.set_cons_zero, List.set_cons_succ, List.nil_append, List.cons_append, Nat.reduceAdd])
  refine chn_kn (stp_take (by rfl) ?yrb1) ?rrb1
  case yrb1 =>
    intro w hbw hd
    have q := (k1'.below_ hbw k1'.lt).cell_ 0
    simp at q
    clear hd
    go_simp
    first | done | with_reducible rfl
  (try simp only [Act.put, List.setIfInBounds_toArray, List.set_cons_zero, List.set_cons_succ, List.nil_append, List.cons_append, Nat.reduceAdd])
  refine chn_is (stp_pure (by rfl) ?yrb2) ?rrb2
  case yrb2 =>
    intro w
    go_simp
    first | done | with_reducible rfl
  (try simp only [Act.put, List.setIfInBounds_toArray, List.set_cons_zero, List.set_cons_succ, List.nil_append, List.cons_append, Nat.reduceAdd])
  refine chn_kn ?srb3 ?rrb3
  case srb3 =>
    intro w hbw hd K Q' hK
    clear hd
    go_simp
    (go_at_call 36; refine (Mod_any _ 5 _ (by decide) (by decide)).mono ?_; rintro e w' ⟨rfl, rfl⟩; rw [HB.out])
    refine hK.out (.int .i64 b) _ _ ?_ ?_ rfl
    · (simp only [Act.put, List.setIfInBounds_toArray, List.set_cons_zero, List.set_cons_succ, List.nil_append, List.cons_append, Nat.reduceAdd])
    · exact (by repeat' (first | with_reducible exact Below.refl _ _ | with_reducible assumption | with_reducible apply Below.drew | with_reducible apply below_drewN | with_reducible apply Below.alloc | with_reducible apply Below.setCell | (with_reducible refine Below.trans ?_ (Below.mono (by assumption) ?_)) | (simp; done) | (simp; omega) | omega | with_reducible apply le_size_alloc | with_reducible apply le_size_drewN | with_reducible apply le_size_drew | with_reducible apply le_size_setCell | with_reducible refine Nat.le_trans ?_ (Below.size (by assumption))))
  (try simp only [Act.put, List.setIfInBounds_toArray, List.set_cons_zero, List.set_cons_succ, List.nil_append, List.cons_append, Nat.reduceAdd])
  refine chn_is (stp_pure (by rfl) ?yrb4) ?rrb4
  case yrb4 =>
    intro w
    go_simp
    first | done | with_reducible rfl
  (try simp only [Act.put, List.setIfInBounds_toArray, List.set_cons_zero, List.set_cons_succ, List.nil_append, List.cons_append, Nat.reduceAdd])
  refine chn_is (stp_pure (by rfl) ?yrb5) ?rrb5
  case yrb5 =>
    intro w
    go_simp
    first | done | with_reducible rfl
  (try simp only [Act.put, List.setIfInBounds_toArray, List.set_cons_zero, List.set_cons_succ, List.nil_append, List.cons_append, Nat.reduceAdd])
  refine chn_late ?rrb6
  (try simp only [Act.put, List.setIfInBounds_toArray, List.set_cons_zero, List.set_cons_succ, List.nil_append, List.cons_append, Nat.reduceAdd])
  refine chn_end (fun wz lo hi hbz hd hR => ?_)
  have k1z := k1'.below_ hbz k1'.lt
  have k2z := k2'.below_ hbz k2'.lt
  have zz2 := k2z.lt
  have bz : Below Z1.heap.size Z1 wz := hb0.trans (hbz.mono hb0.size)
  have c := k2z.cell_ 0
  have f := k2z.frozen_ 0
  simp at c
  clear hd hR k1' k2' hb0 hbz hz0
  refine late_one (by simp only [List.getElem?_toArray, List.getElem?_cons_succ, List.getElem?_cons_zero]; rfl) (fun K Q' hK => ?_)
  go_simp
  refine hK.out _ ?_
  clear hK K Q'
  have k2y := k2z.set_ 0 (.int .i64 (t.fr + b))
  have k1y := k1z.far_ (p := ⟨w3.heap.size, 0, none⟩) (by simp; omega) (.int .i64 (t.fr + b))
  have by_ : Below w.heap.size w (wz.setCell ⟨w3.heap.size, 0, none⟩ (.int .i64 (t.fr + b))) := Below.setCell (BW.trans (bz.mono BW.size)) (by simp; omega) _
  clear k1z k2z zz2 bz c f k1 k2 BW
  generalize wz.setCell ⟨w3.heap.size, 0, none⟩ (.int .i64 (t.fr + b)) = Z2 at k1y k2y by_ ⊢
  have k1 := k1y; have BW := by_
  have k2 : Blk Z2 w3.heap.size 44 #[.int .i64 (t.fr + b), .int .i64 t.mn, .int .i64 t.lw, .int .i64 t.hi, .bool t.aw, .int .i64 t.ob, .int .i64 t.ac, .int .i64 t.ina, .int .i64 t.tg, .bool t.rf, .int .i64 t.wr, .int .i64 t.cp, .int .i64 t.orp, .int .i64 t.rm, .int .i64 (t.sl + a)] := k2y
  clear k1y k2y by_
  go_wp2_with (refine wpList_load_row rfl 44 _ rfl w3.heap.size rfl _ _ _ _ k2 Tryz.underlying44 rfl (by kernel_rfl) ?_)
  refine (hA2 _).mono ?_
  rintro e w4 ⟨rfl, hb4⟩
  have k4 := k1.below_ hb4 k1.lt
  have B4 : Below w.heap.size w w4 := BW.trans (hb4.mono BW.size)
  clear k1 k2 BW hA2 hb4
  have z4 := k4.lt
  have c0 := k4.cell_ 0
  have c1 := k4.cell_ 1
  have c5 := k4.cell_ 5
  have c6 := k4.cell_ 6
  have c7 := k4.cell_ 7
  have c10 := k4.cell_ 10
  have c12 := k4.cell_ 12
  have c13 := k4.cell_ 13
  have c14 := k4.cell_ 14
  simp at c0 c1 c5 c6 c7 c10 c12 c13 c14
  have HFin : ∀ (e : Ending) (w' : World), e = .returned (.bool true) → Below w.heap.size w w' → e = .returned (.bool true) ∧ Below w.heap.size w w' := fun _ _ h1 h2 => ⟨h1, h2⟩
  clear k4 HA HB hw1 hw2 hsl hfr ha5 hb5
  have hcases : (is = false ∧ was = false) ∨ (is = true ∧ (¬ t.mn < t.fr ∧ ¬ 0 < t.ob ∧ ¬ 0 < t.wr ∧ ¬ 0 < t.orp) ∧ ((¬ 0 < t.ac ∧ ¬ 0 < t.ina) ∨ (0 < t.ac ∧ ¬ 0 < t.sl) ∨ (0 < t.ac ∧ 0 < t.sl ∧ ¬ 0 < t.rm) ∨ (¬ 0 < t.ac ∧ 0 < t.ina ∧ ¬ 0 < t.sl) ∨ (¬ 0 < t.ac ∧ 0 < t.ina ∧ 0 < t.sl ∧ ¬ 0 < t.rm))) := by
    cases is
    · refine .inl ⟨rfl, ?_⟩
      cases was
      · rfl
      · exact absurd (hm rfl) (by simp)
    · refine .inr ⟨rfl, ?_⟩
      obtain ⟨h1, h2, h3, h4, h5⟩ := hi rfl
      omega
  clear hm hi
  rcases hcases with ⟨rfl, rfl⟩ | ⟨rfl, ⟨g1, g2, g3, g4⟩, ⟨g5, g6⟩ | ⟨g5, g6⟩ | ⟨g5, g6, g7⟩ | ⟨g5, g6, g7⟩ | ⟨g5, g6, g7, g8⟩⟩
  rotate_left
  all_goals (try cases was)
  all_goals
    go_wp2_with fail
    clear c0 c1 c5 c6 c7 c10 c12 c13 c14
    refine (Mod_any mapped 120 _ (by decide) (by decide)).mono ?_
    rintro e w5 ⟨rfl, rfl⟩
    have hm0 : 0 ≤ mapped % 120 ∧ mapped % 120 < 120 := by omega
    generalize mapped % 120 = m at hm0 ⊢
    go_wp2_with fail
    refine (hC _).mono ?_
    rintro e w5 ⟨rfl, hb5⟩
    have B5 := B4.trans (hb5.mono B4.size)
    clear hb5
    go_wp2_with fail
    refine (hSf m _ (by omega) (by omega)).mono ?_
    rintro e w6 ⟨rfl, hb6⟩
    have B6 := B5.trans (hb6.mono B5.size)
    clear hb6 B5
    go_wp2_with fail
    refine (hC _).mono ?_
    rintro e w7 ⟨rfl, hb7⟩
    have B7 := B6.trans (hb7.mono B6.size)
    clear hb7 B6
    go_wp2_with fail
    refine (Mod_any fewer (m + 1) _ (by omega) (by omega)).mono ?_
    rintro e w8 ⟨rfl, rfl⟩
    have hf0 : 0 ≤ fewer % (m + 1) ∧ fewer % (m + 1) ≤ m := by
      have h1 := Int.emod_nonneg fewer (show m + 1 ≠ 0 by omega)
      have h2 := Int.emod_lt_of_pos fewer (show 0 < m + 1 by omega)
      omega
    generalize fewer % (m + 1) = f at hf0 ⊢
    have hmono := fun h => safe_mono (a := m) (b := f) h hf0.2
    go_wp2_with fail
    refine (hSf f _ (by omega) (by omega)).mono ?_
    rintro e w8 ⟨rfl, hb8⟩
    have B8 := B7.trans (hb8.mono B7.size)
    clear hb8 B7
    generalize safeB 128 20 87 m = x at hmono ⊢
    generalize safeB 128 20 87 f = y at hmono ⊢
    cases x
    · cases y <;> (go_wp2; refine bodyPost_ret (v := .bool true) (by simp [results, Tryz.results8, go_sem]) rfl ?_; exact HFin _ _ rfl B8)
    · obtain rfl : y = true := hmono rfl
      go_wp2
      refine bodyPost_ret (v := .bool true) (by simp [results, Tryz.results8, go_sem]) rfl ?_
      exact HFin _ _ rfl B8

set_option maxRecDepth 100000 in
theorem oomRare_lifted (os : Os) (started : os.Started) (H : Type) (enc : TypeId × Value → H) :
    ReturnsInHanded {} Tryz.checked os 8 .any (fun w args => (Rows.oomRareSpec.pre enc Tryz.prog Tryz.f8 [] false w args ∧ laidMetH Tryz.prog laidV w) ∧ sizedMet enc Tryz.prog Tryz.f8 (OpenSpec.ofChange Rows.oomRareSpec) false w args) (Rows.oomRareSpec.post enc Tryz.prog Tryz.f8 false true false false) := by
  refine returnsInHanded_of_change_and (C := Tryz.checked) (X := fun w _ => laidMetH Tryz.prog laidV w) (fun _ _ _ hh h => h.of_heap hh) own started (by kernel_rfl) Tryz.func8
    (ChangeSpec.witness_shaped (enc := enc) (C := Tryz.checked) (os := os) (X := fun w _ => laidMetH Tryz.prog laidV w) false (World.doorLaid Tryz.prog 400 os) #[.int .i64 0, .int .i64 0, .int .i64 0, .int .i64 0, .int .i64 0] 8 rfl (World.shaped_of_RefB (by kernel_rfl) (by kernel_rfl)) (by kernel_rfl) (by kernel_rfl) (by kernel_rfl) (door_met os _)) ?_
  intro W base args ds gs before hval0 hW hcnd _ hL _
  have hval : ∀ (j : Nat) t v, Tryz.f8.params[j]? = some t → args[j]? = some v → Value.okWide Tryz.prog W .any base t v := hval0
  have hW' := hW
  obtain ⟨p, q, hA0, hV, rfl, hfz, hnd⟩ := hW
  have hA : DataW.TrodAll enc Tryz.prog W 0 (fun _ => true) true Tryz.f8.params.toList args.toList ds p := hA0
  rw [Tryz.params8] at hA hval
  obtain ⟨v0, vs0, d0, ds0, p0, q0, hargs, rfl, rfl, h0, r0⟩ := trodAll_cons hA
  obtain ⟨v1, vs1, d1, ds1, p1, q1, rfl, rfl, rfl, h1, r1⟩ := trodAll_cons r0
  obtain ⟨v2, vs2, d2, ds2, p2, q2, rfl, rfl, rfl, h2, r2⟩ := trodAll_cons r1
  obtain ⟨v3, vs3, d3, ds3, p3, q3, rfl, rfl, rfl, h3, r3⟩ := trodAll_cons r2
  obtain ⟨v4, vs4, d4, ds4, p4, q4, rfl, rfl, rfl, h4, r4⟩ := trodAll_cons r3
  obtain ⟨rfl, rfl, rfl⟩ := trodAll_nil r4
  obtain rfl : args = #[v0, v1, v2, v3, v4] := by cases args; simp_all
  obtain ⟨rfl, rfl⟩ := trodVars_none hV
  obtain ⟨a0, rfl, rfl, rfl, w0⟩ := open_int Tryz.underlying3 (hval 0 3 v0 rfl rfl) h0
  obtain ⟨a1, rfl, rfl, rfl, w1⟩ := open_int Tryz.underlying3 (hval 1 3 v1 rfl rfl) h1
  obtain ⟨a2, rfl, rfl, rfl, w2⟩ := open_int Tryz.underlying3 (hval 2 3 v2 rfl rfl) h2
  obtain ⟨a3, rfl, rfl, rfl, w3⟩ := open_int Tryz.underlying3 (hval 3 3 v3 rfl rfl) h3
  obtain ⟨a4, rfl, rfl, rfl, w4⟩ := open_int Tryz.underlying3 (hval 4 3 v4 rfl rfl) h4
  clear hA0 hval0
  refine (oomRare_walk a0 a1 a2 a3 a4 w0 w1 w2 w3 w4 W (of_laid hL)).mono fun e W' ⟨he, hb⟩ => ⟨_, he, ?_⟩
  exact law_post laidOut (s := Rows.oomRareSpec) (B := 4) rfl rfl Tryz.underlying4 (by decide +kernel) hW' rfl hb

theorem oomRare_holds : Rows.OomRareSaid :=
  OpenClaim.holds_of_wide 8 Tryz.f8 rfl rfl rfl rfl rfl rfl rfl ⟨rfl, rfl, rfl, rfl, rfl⟩ rfl rfl rfl rfl rfl (by kernel_rfl) Tryz.func8 (by kernel_rfl)
    (of_decide_eq_true (by kernel_rfl)) (by unfold Func.isWrapper; first | (rw [if_pos (by decide +kernel)]; kernel_rfl) | (rw [if_neg (by decide +kernel)]; exact ⟨rfl, rfl⟩))
    (fun os started H enc _ => oomRare_lifted os started H enc)

theorem oomRare_card : Rows.OomRareCardSaid :=
  Claim7.holds_tied_plain_at .later [] [.data] true Rows.oomRareCard.stood.harness false
    oomRare_holds (fun _ h => by cases h) (by kernel_rfl) (fun _ h => by cases h) oomRare_row_tie rfl ⟨rfl, rfl⟩ (by kernel_rfl) rfl
    (fun f fn hf hfn => by
      obtain rfl : f = 8 := Option.some.inj ((show Tryz.prog.funcNamed "headgate/headgatelaw34.OomRare" = some 8 by kernel_rfl).symm.trans hf) |>.symm
      obtain rfl : fn = Tryz.f8 := (Option.some.inj (Tryz.func8.symm.trans hfn)).symm
      exact ⟨by kernel_rfl, fun j t ht => by
        have hall : (Tryz.f8.params.toList.all fun u => !Tryz.prog.wantsStandIn u) = true := by kernel_rfl
        have hm : t ∈ Tryz.f8.params.toList := by simpa using Array.mem_of_getElem? ht
        exact (show Tryz.prog.wantsStandIn t = false by simpa using List.all_eq_true.1 hall t hm)⟩)
    (by kernel_rfl)

end Go.Proofs.YtmbpjafiinfkkaaGreatDoor
