/- OomAllows: when a kill is allowed, K, what is safe, or which errors. Written by gen_loa.py. -/
import Derived.Test.YtmbpjafiinfkkaaGreatDoorOW4
import Derived.Test.YtmbpjafiinfkkaaGreatDoorOWC
import Derived.Test.YtmbpjafiinfkkaaGreatDoorOR1
import Derived.Test.YtmbpjafiinfkkaaGreatDoorAgg
namespace Go.Proofs.YtmbpjafiinfkkaaGreatDoor
set_option linter.unusedSimpArgs false
set_option linter.unusedVariables false
open Go.RowKit Go.Maps
open Go.ChangeShapes Go.WideShapes Go.ChangeAt Go.Joins

theorem wf_rng {n : Int} (h : (Lit.int .i64 n).wf = true) : -9223372036854775808 ≤ n ∧ n ≤ 9223372036854775807 := by
  have e : IntKind.i64.min = -9223372036854775808 := by decide
  simpa [Lit.wf, e] using h
set_option maxRecDepth 100000 in
set_option maxHeartbeats 8000000 in
theorem oomAllows_walk (a00 : Int) (a01 : Int) (a02 : Int) (a03 : Int) (a04 : Bool) (a05 : Int) (a06 : Int) (a07 : Int) (a08 : Int) (a09 : Bool) (a010 : Int) (a011 : Int) (a012 : Int) (a013 : Int) (a014 : Int) (a10 : Int) (a11 : Int) (a12 : Int) (a13 : Int) (a14 : Int) (a15 : Int) (a16 : Int) (a17 : Int) (a18 : Int) (a2 : Int) (w00 : (Lit.int .i64 a00).wf = true) (w01 : (Lit.int .i64 a01).wf = true) (w02 : (Lit.int .i64 a02).wf = true) (w03 : (Lit.int .i64 a03).wf = true) (w05 : (Lit.int .i64 a05).wf = true) (w06 : (Lit.int .i64 a06).wf = true) (w07 : (Lit.int .i64 a07).wf = true) (w08 : (Lit.int .i64 a08).wf = true) (w010 : (Lit.int .i64 a010).wf = true) (w011 : (Lit.int .i64 a011).wf = true) (w012 : (Lit.int .i64 a012).wf = true) (w013 : (Lit.int .i64 a013).wf = true) (w014 : (Lit.int .i64 a014).wf = true) (_w10 : (Lit.int .i64 a10).wf = true) (_w11 : (Lit.int .i64 a11).wf = true) (_w12 : (Lit.int .i64 a12).wf = true) (_w13 : (Lit.int .i64 a13).wf = true) (_w14 : (Lit.int .i64 a14).wf = true) (_w15 : (Lit.int .i64 a15).wf = true) (_w16 : (Lit.int .i64 a16).wf = true) (_w17 : (Lit.int .i64 a17).wf = true) (_w18 : (Lit.int .i64 a18).wf = true) (_w2 : (Lit.int .i64 a2).wf = true) (w : World) (hal : AL w) :
    Calls Tryz.prog 4 #[.agg #[.int .i64 a00, .int .i64 a01, .int .i64 a02, .int .i64 a03, .bool a04, .int .i64 a05, .int .i64 a06, .int .i64 a07, .int .i64 a08, .bool a09, .int .i64 a010, .int .i64 a011, .int .i64 a012, .int .i64 a013, .int .i64 a014], .agg #[.int .i64 a10, .int .i64 a11, .int .i64 a12, .int .i64 a13, .int .i64 a14, .int .i64 a15, .int .i64 a16, .int .i64 a17, .int .i64 a18], .int .i64 a2] w fun e w' => e = .returned (.bool true) ∧ Below w.heap.size w w' := by
  obtain ⟨t, ht⟩ : ∃ t : TL, t = ⟨a00, a01, a02, a03, a04, a05, a06, a07, a08, a09, a010, a011, a012, a013, a014⟩ := ⟨_, rfl⟩
  have hok : TOk t := by
    subst ht
    exact ⟨wf_rng w00, wf_rng w05, wf_rng w06, wf_rng w07, wf_rng w08, wf_rng w014, wf_rng w012, wf_rng w013, wf_rng w010⟩
  have hA := fun w => Allowed_any t hok w
  have hrA := fun w => rAllowed_any t w
  have hK := fun w => K_any a10 a11 a12 a13 a14 a15 a16 a17 a18 w
  have hrK := fun w => rK_any a10 a11 a12 a13 a14 a15 a16 a17 a18 w
  have hS := fun w => Safe_any a10 a11 a12 a13 a14 a15 a16 a17 a18 a2 w
  have hrS := fun w => rSafe_any a10 a11 a12 a13 a14 a15 a16 a17 a18 a2 w
  have ec : tlC t = #[.int .i64 a00, .int .i64 a01, .int .i64 a02, .int .i64 a03, .bool a04, .int .i64 a05, .int .i64 a06, .int .i64 a07, .int .i64 a08, .bool a09, .int .i64 a010, .int .i64 a011, .int .i64 a012, .int .i64 a013, .int .i64 a014] := by subst ht; rfl
  rw [ec] at hA hrA
  generalize allB t = q1 at *
  generalize chkT t = q2 at *
  generalize (if safeE (fitE a10 a11 a12 a13 a14 a15 a16 a17 a18) a2 = 0 then safeB a10 a12 (kN a14 a15) a2 else false) = q5 at *
  generalize safeE (fitE a10 a11 a12 a13 a14 a15 a16 a17 a18) a2 = q6 at *
  generalize (if fitE a10 a11 a12 a13 a14 a15 a16 a17 a18 = 0 then kN a14 a15 else 0) = q3 at *
  generalize fitE a10 a11 a12 a13 a14 a15 a16 a17 a18 = q4 at *
  unfold cfgV at hK hrK hS hrS
  have HAL := Lib.hid hal
  clear ht hok ec hal
  obtain ⟨V, hV⟩ : ∃ V, (w.alloc (.cells #[.int .i64 a00, .int .i64 a01, .int .i64 a02, .int .i64 a03, .bool a04, .int .i64 a05, .int .i64 a06, .int .i64 a07, .int .i64 a08, .bool a09, .int .i64 a010, .int .i64 a011, .int .i64 a012, .int .i64 a013, .int .i64 a014] 44)).alloc (.cells #[.int .i64 a10, .int .i64 a11, .int .i64 a12, .int .i64 a13, .int .i64 a14, .int .i64 a15, .int .i64 a16, .int .i64 a17, .int .i64 a18] 46) = V := ⟨_, rfl⟩
  have B : Below w.heap.size w V := by rw [← hV]; exact (by repeat' (first | with_reducible exact Below.refl _ _ | with_reducible assumption | with_reducible apply Below.drew | with_reducible apply below_drewN | with_reducible apply Below.alloc | with_reducible apply Below.setCell | (with_reducible refine Below.trans ?_ (Below.mono (by assumption) ?_)) | (simp; done) | (simp; omega) | omega | with_reducible apply le_size_alloc | with_reducible apply le_size_drewN | with_reducible apply le_size_drew | with_reducible apply le_size_setCell | refine Nat.le_trans ?_ (Below.size (by assumption))))
  have K1 : Hid (V.heap[w.heap.size]? = some (.cells #[.int .i64 a00, .int .i64 a01, .int .i64 a02, .int .i64 a03, .bool a04, .int .i64 a05, .int .i64 a06, .int .i64 a07, .int .i64 a08, .bool a09, .int .i64 a010, .int .i64 a011, .int .i64 a012, .int .i64 a013, .int .i64 a014] 44 (0, 0))) := by rw [← hV]; exact Blk.alloc_ (Blk.new_ rfl rfl) _
  have K2 : Hid (V.heap[w.heap.size + 1]? = some (.cells #[.int .i64 a10, .int .i64 a11, .int .i64 a12, .int .i64 a13, .int .i64 a14, .int .i64 a15, .int .i64 a16, .int .i64 a17, .int .i64 a18] 46 (0, 0))) := by rw [← hV]; exact Blk.new_ (by simp) rfl
  go_enter Tryz.func4, Tryz.ntmps4
  go_wp2_with (first
    | (refine wpList_load_row rfl 44 _ rfl w.heap.size rfl _ _ _ _ K1.out Tryz.underlying44 rfl (by kernel_rfl) ?_)
    | (refine wpList_load_row rfl 46 _ rfl (w.heap.size + 1) rfl _ _ _ _ K2.out Tryz.underlying46 rfl (by kernel_rfl) ?_))
  refine (hA _).mono ?_
  rintro e x1 ⟨rfl, hb⟩
  have d : Below V.heap.size V x1 := by clear B; exact (by repeat' (first | with_reducible exact Below.refl _ _ | with_reducible assumption | with_reducible apply Below.drew | with_reducible apply below_drewN | with_reducible apply Below.alloc | with_reducible apply Below.setCell | (with_reducible refine Below.trans ?_ (Below.mono (by assumption) ?_)) | (simp; done) | (simp; omega) | omega | with_reducible apply le_size_alloc | with_reducible apply le_size_drewN | with_reducible apply le_size_drew | with_reducible apply le_size_setCell | refine Nat.le_trans ?_ (Below.size (by assumption))))
  have K1' : Hid (x1.heap[w.heap.size]? = some (.cells #[.int .i64 a00, .int .i64 a01, .int .i64 a02, .int .i64 a03, .bool a04, .int .i64 a05, .int .i64 a06, .int .i64 a07, .int .i64 a08, .bool a09, .int .i64 a010, .int .i64 a011, .int .i64 a012, .int .i64 a013, .int .i64 a014] 44 (0, 0))) := Blk.below_ K1.out d (Blk.lt K1.out)
  have K2' : Hid (x1.heap[w.heap.size + 1]? = some (.cells #[.int .i64 a10, .int .i64 a11, .int .i64 a12, .int .i64 a13, .int .i64 a14, .int .i64 a15, .int .i64 a16, .int .i64 a17, .int .i64 a18] 46 (0, 0))) := Blk.below_ K2.out d (Blk.lt K2.out)
  have b : Below w.heap.size w x1 := B.trans (d.mono B.size)
  clear hb B d K1 K2
  have B := b; have K1 := K1'; have K2 := K2'
  clear b K1' K2'
  go_wp2_with (first
    | (refine wpList_load_row rfl 44 _ rfl w.heap.size rfl _ _ _ _ K1.out Tryz.underlying44 rfl (by kernel_rfl) ?_)
    | (refine wpList_load_row rfl 46 _ rfl (w.heap.size + 1) rfl _ _ _ _ K2.out Tryz.underlying46 rfl (by kernel_rfl) ?_))
  refine (hrA _).mono ?_
  rintro e x2 ⟨rfl, hb⟩
  have d : Below x1.heap.size x1 x2 := by clear B; exact (by repeat' (first | with_reducible exact Below.refl _ _ | with_reducible assumption | with_reducible apply Below.drew | with_reducible apply below_drewN | with_reducible apply Below.alloc | with_reducible apply Below.setCell | (with_reducible refine Below.trans ?_ (Below.mono (by assumption) ?_)) | (simp; done) | (simp; omega) | omega | with_reducible apply le_size_alloc | with_reducible apply le_size_drewN | with_reducible apply le_size_drew | with_reducible apply le_size_setCell | refine Nat.le_trans ?_ (Below.size (by assumption))))
  have K1' : Hid (x2.heap[w.heap.size]? = some (.cells #[.int .i64 a00, .int .i64 a01, .int .i64 a02, .int .i64 a03, .bool a04, .int .i64 a05, .int .i64 a06, .int .i64 a07, .int .i64 a08, .bool a09, .int .i64 a010, .int .i64 a011, .int .i64 a012, .int .i64 a013, .int .i64 a014] 44 (0, 0))) := Blk.below_ K1.out d (Blk.lt K1.out)
  have K2' : Hid (x2.heap[w.heap.size + 1]? = some (.cells #[.int .i64 a10, .int .i64 a11, .int .i64 a12, .int .i64 a13, .int .i64 a14, .int .i64 a15, .int .i64 a16, .int .i64 a17, .int .i64 a18] 46 (0, 0))) := Blk.below_ K2.out d (Blk.lt K2.out)
  have b : Below w.heap.size w x2 := B.trans (d.mono B.size)
  clear hb B d K1 K2
  have B := b; have K1 := K1'; have K2 := K2'
  clear b K1' K2'
  go_wp2_with (first
    | (refine wpList_load_row rfl 44 _ rfl w.heap.size rfl _ _ _ _ K1.out Tryz.underlying44 rfl (by kernel_rfl) ?_)
    | (refine wpList_load_row rfl 46 _ rfl (w.heap.size + 1) rfl _ _ _ _ K2.out Tryz.underlying46 rfl (by kernel_rfl) ?_))
  refine (hK _).mono ?_
  rintro e x3 ⟨rfl, hb⟩
  have d : Below x2.heap.size x2 x3 := by clear B; exact (by repeat' (first | with_reducible exact Below.refl _ _ | with_reducible assumption | with_reducible apply Below.drew | with_reducible apply below_drewN | with_reducible apply Below.alloc | with_reducible apply Below.setCell | (with_reducible refine Below.trans ?_ (Below.mono (by assumption) ?_)) | (simp; done) | (simp; omega) | omega | with_reducible apply le_size_alloc | with_reducible apply le_size_drewN | with_reducible apply le_size_drew | with_reducible apply le_size_setCell | refine Nat.le_trans ?_ (Below.size (by assumption))))
  have K1' : Hid (x3.heap[w.heap.size]? = some (.cells #[.int .i64 a00, .int .i64 a01, .int .i64 a02, .int .i64 a03, .bool a04, .int .i64 a05, .int .i64 a06, .int .i64 a07, .int .i64 a08, .bool a09, .int .i64 a010, .int .i64 a011, .int .i64 a012, .int .i64 a013, .int .i64 a014] 44 (0, 0))) := Blk.below_ K1.out d (Blk.lt K1.out)
  have K2' : Hid (x3.heap[w.heap.size + 1]? = some (.cells #[.int .i64 a10, .int .i64 a11, .int .i64 a12, .int .i64 a13, .int .i64 a14, .int .i64 a15, .int .i64 a16, .int .i64 a17, .int .i64 a18] 46 (0, 0))) := Blk.below_ K2.out d (Blk.lt K2.out)
  have b : Below w.heap.size w x3 := B.trans (d.mono B.size)
  clear hb B d K1 K2
  have B := b; have K1 := K1'; have K2 := K2'
  clear b K1' K2'
  go_wp2_with (first
    | (refine wpList_load_row rfl 44 _ rfl w.heap.size rfl _ _ _ _ K1.out Tryz.underlying44 rfl (by kernel_rfl) ?_)
    | (refine wpList_load_row rfl 46 _ rfl (w.heap.size + 1) rfl _ _ _ _ K2.out Tryz.underlying46 rfl (by kernel_rfl) ?_))
  refine (hrK _).mono ?_
  rintro e x4 ⟨rfl, hb⟩
  have d : Below x3.heap.size x3 x4 := by clear B; exact (by repeat' (first | with_reducible exact Below.refl _ _ | with_reducible assumption | with_reducible apply Below.drew | with_reducible apply below_drewN | with_reducible apply Below.alloc | with_reducible apply Below.setCell | (with_reducible refine Below.trans ?_ (Below.mono (by assumption) ?_)) | (simp; done) | (simp; omega) | omega | with_reducible apply le_size_alloc | with_reducible apply le_size_drewN | with_reducible apply le_size_drew | with_reducible apply le_size_setCell | refine Nat.le_trans ?_ (Below.size (by assumption))))
  have K1' : Hid (x4.heap[w.heap.size]? = some (.cells #[.int .i64 a00, .int .i64 a01, .int .i64 a02, .int .i64 a03, .bool a04, .int .i64 a05, .int .i64 a06, .int .i64 a07, .int .i64 a08, .bool a09, .int .i64 a010, .int .i64 a011, .int .i64 a012, .int .i64 a013, .int .i64 a014] 44 (0, 0))) := Blk.below_ K1.out d (Blk.lt K1.out)
  have K2' : Hid (x4.heap[w.heap.size + 1]? = some (.cells #[.int .i64 a10, .int .i64 a11, .int .i64 a12, .int .i64 a13, .int .i64 a14, .int .i64 a15, .int .i64 a16, .int .i64 a17, .int .i64 a18] 46 (0, 0))) := Blk.below_ K2.out d (Blk.lt K2.out)
  have b : Below w.heap.size w x4 := B.trans (d.mono B.size)
  clear hb B d K1 K2
  have B := b; have K1 := K1'; have K2 := K2'
  clear b K1' K2'
  go_wp2_with (first
    | (refine wpList_load_row rfl 44 _ rfl w.heap.size rfl _ _ _ _ K1.out Tryz.underlying44 rfl (by kernel_rfl) ?_)
    | (refine wpList_load_row rfl 46 _ rfl (w.heap.size + 1) rfl _ _ _ _ K2.out Tryz.underlying46 rfl (by kernel_rfl) ?_))
  refine (hS _).mono ?_
  rintro e x5 ⟨rfl, hb⟩
  have d : Below x4.heap.size x4 x5 := by clear B; exact (by repeat' (first | with_reducible exact Below.refl _ _ | with_reducible assumption | with_reducible apply Below.drew | with_reducible apply below_drewN | with_reducible apply Below.alloc | with_reducible apply Below.setCell | (with_reducible refine Below.trans ?_ (Below.mono (by assumption) ?_)) | (simp; done) | (simp; omega) | omega | with_reducible apply le_size_alloc | with_reducible apply le_size_drewN | with_reducible apply le_size_drew | with_reducible apply le_size_setCell | refine Nat.le_trans ?_ (Below.size (by assumption))))
  have K1' : Hid (x5.heap[w.heap.size]? = some (.cells #[.int .i64 a00, .int .i64 a01, .int .i64 a02, .int .i64 a03, .bool a04, .int .i64 a05, .int .i64 a06, .int .i64 a07, .int .i64 a08, .bool a09, .int .i64 a010, .int .i64 a011, .int .i64 a012, .int .i64 a013, .int .i64 a014] 44 (0, 0))) := Blk.below_ K1.out d (Blk.lt K1.out)
  have K2' : Hid (x5.heap[w.heap.size + 1]? = some (.cells #[.int .i64 a10, .int .i64 a11, .int .i64 a12, .int .i64 a13, .int .i64 a14, .int .i64 a15, .int .i64 a16, .int .i64 a17, .int .i64 a18] 46 (0, 0))) := Blk.below_ K2.out d (Blk.lt K2.out)
  have b : Below w.heap.size w x5 := B.trans (d.mono B.size)
  clear hb B d K1 K2
  have B := b; have K1 := K1'; have K2 := K2'
  clear b K1' K2'
  go_wp2_with (first
    | (refine wpList_load_row rfl 44 _ rfl w.heap.size rfl _ _ _ _ K1.out Tryz.underlying44 rfl (by kernel_rfl) ?_)
    | (refine wpList_load_row rfl 46 _ rfl (w.heap.size + 1) rfl _ _ _ _ K2.out Tryz.underlying46 rfl (by kernel_rfl) ?_))
  refine (hrS _).mono ?_
  rintro e x6 ⟨rfl, hb⟩
  have d : Below x5.heap.size x5 x6 := by clear B; exact (by repeat' (first | with_reducible exact Below.refl _ _ | with_reducible assumption | with_reducible apply Below.drew | with_reducible apply below_drewN | with_reducible apply Below.alloc | with_reducible apply Below.setCell | (with_reducible refine Below.trans ?_ (Below.mono (by assumption) ?_)) | (simp; done) | (simp; omega) | omega | with_reducible apply le_size_alloc | with_reducible apply le_size_drewN | with_reducible apply le_size_drew | with_reducible apply le_size_setCell | refine Nat.le_trans ?_ (Below.size (by assumption))))
  have K1' : Hid (x6.heap[w.heap.size]? = some (.cells #[.int .i64 a00, .int .i64 a01, .int .i64 a02, .int .i64 a03, .bool a04, .int .i64 a05, .int .i64 a06, .int .i64 a07, .int .i64 a08, .bool a09, .int .i64 a010, .int .i64 a011, .int .i64 a012, .int .i64 a013, .int .i64 a014] 44 (0, 0))) := Blk.below_ K1.out d (Blk.lt K1.out)
  have K2' : Hid (x6.heap[w.heap.size + 1]? = some (.cells #[.int .i64 a10, .int .i64 a11, .int .i64 a12, .int .i64 a13, .int .i64 a14, .int .i64 a15, .int .i64 a16, .int .i64 a17, .int .i64 a18] 46 (0, 0))) := Blk.below_ K2.out d (Blk.lt K2.out)
  have b : Below w.heap.size w x6 := B.trans (d.mono B.size)
  clear hb B d K1 K2
  have B := b; have K1 := K1'; have K2 := K2'
  clear b K1' K2'
  go_wp2_with fail
  refine (awake_any _ (HAL.out.ext B)).mono ?_
  rintro e x7 ⟨rfl, hb⟩
  go_wp2
  refine bodyPost_ret (v := .bool true) (by simp [results, Tryz.results4, go_sem]) rfl ?_
  exact ⟨rfl, (by repeat' (first | with_reducible exact Below.refl _ _ | with_reducible assumption | with_reducible apply Below.drew | with_reducible apply below_drewN | with_reducible apply Below.alloc | with_reducible apply Below.setCell | (with_reducible refine Below.trans ?_ (Below.mono (by assumption) ?_)) | (simp; done) | (simp; omega) | omega | with_reducible apply le_size_alloc | with_reducible apply le_size_drewN | with_reducible apply le_size_drew | with_reducible apply le_size_setCell | refine Nat.le_trans ?_ (Below.size (by assumption))))⟩

set_option maxRecDepth 100000 in
theorem oomAllows_lifted (os : Os) (started : os.Started) (H : Type) (enc : TypeId × Value → H) :
    ReturnsInHanded {} Tryz.checked os 4 .any (fun w args => (Rows.oomAllowsSpec.pre enc Tryz.prog Tryz.f4 [] false w args ∧ laidMetH Tryz.prog laidV w) ∧ sizedMet enc Tryz.prog Tryz.f4 (OpenSpec.ofChange Rows.oomAllowsSpec) false w args) (Rows.oomAllowsSpec.post enc Tryz.prog Tryz.f4 false true false false) := by
  refine returnsInHanded_of_change_and (C := Tryz.checked) (X := fun w _ => laidMetH Tryz.prog laidV w) (fun _ _ _ hh h => h.of_heap hh) own started (by kernel_rfl) Tryz.func4
    (ChangeSpec.witness_shaped (enc := enc) (C := Tryz.checked) (os := os) (X := fun w _ => laidMetH Tryz.prog laidV w) false (World.doorLaid Tryz.prog 400 os) #[.agg #[.int .i64 0, .int .i64 0, .int .i64 0, .int .i64 0, .bool false, .int .i64 0, .int .i64 0, .int .i64 0, .int .i64 0, .bool false, .int .i64 0, .int .i64 0, .int .i64 0, .int .i64 0, .int .i64 0], .agg #[.int .i64 0, .int .i64 0, .int .i64 0, .int .i64 0, .int .i64 0, .int .i64 0, .int .i64 0, .int .i64 0, .int .i64 0], .int .i64 0] 8 rfl (World.shaped_of_RefB (by kernel_rfl) (by kernel_rfl)) (by kernel_rfl) (by kernel_rfl) (by kernel_rfl) (door_met os _)) ?_
  intro W base args ds gs before hval0 hW hcnd _ hL _
  have hval : ∀ (j : Nat) t v, Tryz.f4.params[j]? = some t → args[j]? = some v → Value.okWide Tryz.prog W .any base t v := hval0
  have hW' := hW
  obtain ⟨p, q, hA0, hV, rfl, hfz, hnd⟩ := hW
  have hA : DataW.TrodAll enc Tryz.prog W 0 (fun _ => true) true Tryz.f4.params.toList args.toList ds p := hA0
  rw [Tryz.params4] at hA hval
  obtain ⟨v0, vs0, d0, ds0, p0, q0, hargs, rfl, rfl, h0, r0⟩ := trodAll_cons hA
  obtain ⟨v1, vs1, d1, ds1, p1, q1, rfl, rfl, rfl, h1, r1⟩ := trodAll_cons r0
  obtain ⟨v2, vs2, d2, ds2, p2, q2, rfl, rfl, rfl, h2, r2⟩ := trodAll_cons r1
  obtain ⟨rfl, rfl, rfl⟩ := trodAll_nil r2
  obtain rfl : args = #[v0, v1, v2] := by cases args; simp_all
  obtain ⟨rfl, rfl⟩ := trodVars_none hV
  obtain ⟨c00, c01, c02, c03, c04, c05, c06, c07, c08, c09, c010, c011, c012, c013, c014, y00, y01, y02, y03, y04, y05, y06, y07, y08, y09, y010, y011, y012, y013, y014, m0, rfl, rfl, rfl, hy00, hy01, hy02, hy03, hy04, hy05, hy06, hy07, hy08, hy09, hy010, hy011, hy012, hy013, hy014⟩ := open_agg15 Tryz.underlying44 (by kernel_rfl) (by kernel_rfl) (hval 0 44 v0 rfl rfl) h0
  obtain ⟨a00, e00, f00, w00⟩ := DataW.trod_int Tryz.underlying3 hy00
  simp at e00; subst e00
  obtain ⟨a01, e01, f01, w01⟩ := DataW.trod_int Tryz.underlying3 hy01
  simp at e01; subst e01
  obtain ⟨a02, e02, f02, w02⟩ := DataW.trod_int Tryz.underlying3 hy02
  simp at e02; subst e02
  obtain ⟨a03, e03, f03, w03⟩ := DataW.trod_int Tryz.underlying3 hy03
  simp at e03; subst e03
  obtain ⟨a04, e04, f04⟩ := DataW.trod_bool Tryz.underlying4 hy04
  simp at e04; subst e04
  obtain ⟨a05, e05, f05, w05⟩ := DataW.trod_int Tryz.underlying3 hy05
  simp at e05; subst e05
  obtain ⟨a06, e06, f06, w06⟩ := DataW.trod_int Tryz.underlying3 hy06
  simp at e06; subst e06
  obtain ⟨a07, e07, f07, w07⟩ := DataW.trod_int Tryz.underlying3 hy07
  simp at e07; subst e07
  obtain ⟨a08, e08, f08, w08⟩ := DataW.trod_int Tryz.underlying3 hy08
  simp at e08; subst e08
  obtain ⟨a09, e09, f09⟩ := DataW.trod_bool Tryz.underlying4 hy09
  simp at e09; subst e09
  obtain ⟨a010, e010, f010, w010⟩ := DataW.trod_int Tryz.underlying3 hy010
  simp at e010; subst e010
  obtain ⟨a011, e011, f011, w011⟩ := DataW.trod_int Tryz.underlying3 hy011
  simp at e011; subst e011
  obtain ⟨a012, e012, f012, w012⟩ := DataW.trod_int Tryz.underlying3 hy012
  simp at e012; subst e012
  obtain ⟨a013, e013, f013, w013⟩ := DataW.trod_int Tryz.underlying3 hy013
  simp at e013; subst e013
  obtain ⟨a014, e014, f014, w014⟩ := DataW.trod_int Tryz.underlying3 hy014
  simp at e014; subst e014
  obtain ⟨c10, c11, c12, c13, c14, c15, c16, c17, c18, y10, y11, y12, y13, y14, y15, y16, y17, y18, m1, rfl, rfl, rfl, hy10, hy11, hy12, hy13, hy14, hy15, hy16, hy17, hy18⟩ := open_agg9 Tryz.underlying46 (by kernel_rfl) (by kernel_rfl) (hval 1 46 v1 rfl rfl) h1
  obtain ⟨a10, e10, f10, w10⟩ := DataW.trod_int Tryz.underlying3 hy10
  simp at e10; subst e10
  obtain ⟨a11, e11, f11, w11⟩ := DataW.trod_int Tryz.underlying3 hy11
  simp at e11; subst e11
  obtain ⟨a12, e12, f12, w12⟩ := DataW.trod_int Tryz.underlying3 hy12
  simp at e12; subst e12
  obtain ⟨a13, e13, f13, w13⟩ := DataW.trod_int Tryz.underlying3 hy13
  simp at e13; subst e13
  obtain ⟨a14, e14, f14, w14⟩ := DataW.trod_int Tryz.underlying3 hy14
  simp at e14; subst e14
  obtain ⟨a15, e15, f15, w15⟩ := DataW.trod_int Tryz.underlying3 hy15
  simp at e15; subst e15
  obtain ⟨a16, e16, f16, w16⟩ := DataW.trod_int Tryz.underlying3 hy16
  simp at e16; subst e16
  obtain ⟨a17, e17, f17, w17⟩ := DataW.trod_int Tryz.underlying3 hy17
  simp at e17; subst e17
  obtain ⟨a18, e18, f18, w18⟩ := DataW.trod_int Tryz.underlying3 hy18
  simp at e18; subst e18
  obtain ⟨a2, rfl, rfl, rfl, w2⟩ := open_int Tryz.underlying3 (hval 2 3 v2 rfl rfl) h2
  clear hA0 hval0
  refine (oomAllows_walk a00 a01 a02 a03 a04 a05 a06 a07 a08 a09 a010 a011 a012 a013 a014 a10 a11 a12 a13 a14 a15 a16 a17 a18 a2 w00 w01 w02 w03 w05 w06 w07 w08 w010 w011 w012 w013 w014 w10 w11 w12 w13 w14 w15 w16 w17 w18 w2 W (of_laid hL)).mono fun e W' ⟨he, hb⟩ => ⟨_, he, ?_⟩
  exact law_post laidOut (s := Rows.oomAllowsSpec) (B := 4) rfl rfl Tryz.underlying4 (by decide +kernel) hW' rfl hb

theorem oomAllows_holds : Rows.OomAllowsSaid :=
  OpenClaim.holds_of_wide 4 Tryz.f4 rfl rfl rfl rfl rfl rfl rfl ⟨rfl, rfl, rfl, rfl, rfl⟩ rfl rfl rfl rfl rfl (by kernel_rfl) Tryz.func4 (by kernel_rfl)
    (of_decide_eq_true (by kernel_rfl)) (by unfold Func.isWrapper; first | (rw [if_pos (by decide +kernel)]; kernel_rfl) | (rw [if_neg (by decide +kernel)]; exact ⟨rfl, rfl⟩))
    (fun os started H enc _ => oomAllows_lifted os started H enc)

theorem oomAllows_card : Rows.OomAllowsCardSaid :=
  Claim7.holds_tied_plain_at .later [] [.data] true Rows.oomAllowsCard.stood.harness false
    oomAllows_holds (fun _ h => by cases h) (by kernel_rfl) (fun _ h => by cases h) oomAllows_row_tie rfl ⟨rfl, rfl⟩ (by kernel_rfl) rfl
    (fun f fn hf hfn => by
      obtain rfl : f = 4 := Option.some.inj ((show Tryz.prog.funcNamed "headgate/headgatelaw34.OomAllows" = some 4 by kernel_rfl).symm.trans hf) |>.symm
      obtain rfl : fn = Tryz.f4 := (Option.some.inj (Tryz.func4.symm.trans hfn)).symm
      exact ⟨by kernel_rfl, fun j t ht => by
        have hall : (Tryz.f4.params.toList.all fun u => !Tryz.prog.wantsStandIn u) = true := by kernel_rfl
        have hm : t ∈ Tryz.f4.params.toList := by simpa using Array.mem_of_getElem? ht
        exact (show Tryz.prog.wantsStandIn t = false by simpa using List.all_eq_true.1 hall t hm)⟩)
    (by kernel_rfl)

end Go.Proofs.YtmbpjafiinfkkaaGreatDoor
