/- RmapProcs: the statement holds for every list of mappings. Written by gen_lm.py. -/
import Derived.Test.YtbeddhamnefpiaaRL2
namespace Go.Proofs.Ytbeddhamnefpiaa
set_option linter.unusedSimpArgs false
set_option linter.unusedVariables false
open Go.RowKit Go.Maps
open Go.ChangeShapes Go.WideShapes Go.ChangeAt Go.Joins Go.Deep

set_option maxRecDepth 100000 in
set_option maxHeartbeats 4000000 in
theorem rmapProcs_walk (A : Option Addr) (c : Nat) (l : List M3) (n ch : Int) (w : World) (ha : CR mapE w A c l) (hl0 : l.length ≤ maxLen) (_h0 : (Lit.int .i64 n).wf = true) (_h1 : (Lit.int .i64 ch).wf = true) :
    Calls Try.prog 4 #[.slice A l.length c, .int .i64 n, .int .i64 ch] w fun e w' => e = .returned (.bool true) ∧ Below w.heap.size w w' := by
  have hl : l.length ≤ 9223372036854775807 := by unfold maxLen at hl0; exact hl0
  by_cases h80 : 80 < l.length
  · have h80' : (80 : Int) < l.length := by omega
    clear ha
    go_enter Try.func4, Try.ntmps4
    go_wp2_with fail
    refine (awake_any _).mono ?_
    rintro e w2 ⟨rfl, hb2⟩
    go_wp2_with fail
    go_ret
    exact ⟨rfl, (by repeat' (first | with_reducible exact Below.refl _ _ | with_reducible assumption | with_reducible apply Below.drew | with_reducible apply below_drewN | with_reducible apply Below.alloc | with_reducible apply Below.setCell | (with_reducible refine Below.trans ?_ (Below.mono (by assumption) ?_)) | (simp; done) | (simp; omega) | omega | with_reducible apply le_size_alloc | with_reducible apply le_size_drewN | with_reducible apply le_size_drew | with_reducible apply le_size_setCell | refine Nat.le_trans ?_ (Below.size (by assumption))))⟩
  · have h80' : (l.length : Int) ≤ 80 := by omega
    have h80'' : ¬ ((80 : Int) < l.length) := by omega
    have hlc := ha.2
    have la : l.length ≤ 1000 := by omega
    obtain ⟨⟨Le, Lf, ze⟩, hX⟩ : ∃ r, extM l n = r := ⟨_, rfl⟩
    obtain ⟨⟨Lk, zk⟩, hK⟩ : ∃ r, frkM l n ch = r := ⟨_, rfl⟩
    have l1 : Le.length ≤ 1000 := by have h := congrArg (fun r => r.1.length) hX; simp only at h; rw [← h]; have := (extM_len l n).1; omega
    have l2 : Lf.length ≤ 100000 := by have h := congrArg (fun r => r.2.1.length) hX; simp only at h; rw [← h]; have := (extM_len l n).2; omega
    have l3 : Lk.length ≤ 1000 := by have h := congrArg (fun r => r.1.length) hK; simp only at h; rw [← h]; have := frkM_len l n ch; omega
    have HX := Lib.hid hX; have HK := Lib.hid hK
    clear hX hK
    have HS : Hid (CR mapE w A c l) := ha
    clear ha
    have B : Hid (Below w.heap.size w w) := Below.refl _ _
    go_enter Try.func4, Try.ntmps4
    go_wp2_with fail
    refine (OwnMaps_any A c l _ HS.out.1 la).mono ?_
    rintro e x1 ⟨A1, c1, rfl, hc1, hb⟩
    have b : Below w.heap.size w x1 := (by repeat' (first | with_reducible exact Below.refl _ _ | with_reducible assumption | with_reducible apply Below.drew | with_reducible apply below_drewN | with_reducible apply Below.alloc | with_reducible apply Below.setCell | (with_reducible refine Below.trans ?_ (Below.mono (by assumption) ?_)) | (simp; done) | (simp; omega) | omega | with_reducible apply le_size_alloc | with_reducible apply le_size_drewN | with_reducible apply le_size_drew | with_reducible apply le_size_setCell | refine Nat.le_trans ?_ (Below.size (by assumption))))
    clear hb
    replace HS : Hid (CR mapE x1 A c l) := HS.out.ext b
    replace B : Hid (Below w.heap.size w x1) := B.out.trans (b.mono B.out.size)
    have H1 : Hid (CR mapE x1 A1 c1 l) := hc1
    clear hc1
    clear b
    go_wp2_with fail
    refine (Exit_any A1 c1 l n _ H1.out.1 la).mono ?_
    unfold ExtPost
    rw [HX.out]
    rintro e x2 ⟨A20, c20, A21, c21, rfl, hc20, hc21, hb⟩
    have b : Below x1.heap.size x1 x2 := (by repeat' (first | with_reducible exact Below.refl _ _ | with_reducible assumption | with_reducible apply Below.drew | with_reducible apply below_drewN | with_reducible apply Below.alloc | with_reducible apply Below.setCell | (with_reducible refine Below.trans ?_ (Below.mono (by assumption) ?_)) | (simp; done) | (simp; omega) | omega | with_reducible apply le_size_alloc | with_reducible apply le_size_drewN | with_reducible apply le_size_drew | with_reducible apply le_size_setCell | refine Nat.le_trans ?_ (Below.size (by assumption))))
    clear hb
    replace HS : Hid (CR mapE x2 A c l) := HS.out.ext b
    replace H1 : Hid (CR mapE x2 A1 c1 l) := H1.out.ext b
    replace B : Hid (Below w.heap.size w x2) := B.out.trans (b.mono B.out.size)
    have Ma : Hid (CR mapE x2 A20 c20 Le) := hc20
    have Fa : Hid (Sl x2 (.int .i64) A21 Lf) := hc21
    clear hc20
    clear hc21
    clear b
    go_wp2_with fail
    refine (RExit_any A c l n _ HS.out la).mono ?_
    unfold ExtPost
    rw [HX.out]
    rintro e x3 ⟨A30, c30, A31, c31, rfl, hc30, hc31, hb⟩
    have b : Below x2.heap.size x2 x3 := (by repeat' (first | with_reducible exact Below.refl _ _ | with_reducible assumption | with_reducible apply Below.drew | with_reducible apply below_drewN | with_reducible apply Below.alloc | with_reducible apply Below.setCell | (with_reducible refine Below.trans ?_ (Below.mono (by assumption) ?_)) | (simp; done) | (simp; omega) | omega | with_reducible apply le_size_alloc | with_reducible apply le_size_drewN | with_reducible apply le_size_drew | with_reducible apply le_size_setCell | refine Nat.le_trans ?_ (Below.size (by assumption))))
    clear hb
    replace HS : Hid (CR mapE x3 A c l) := HS.out.ext b
    replace H1 : Hid (CR mapE x3 A1 c1 l) := H1.out.ext b
    replace Ma : Hid (CR mapE x3 A20 c20 Le) := Ma.out.ext b
    replace Fa : Hid (Sl x3 (.int .i64) A21 Lf) := Fa.out.ext b
    replace B : Hid (Below w.heap.size w x3) := B.out.trans (b.mono B.out.size)
    have Mb : Hid (CR mapE x3 A30 c30 Le) := hc30
    have Fb : Hid (Sl x3 (.int .i64) A31 Lf) := hc31
    clear hc30
    clear hc31
    clear b
    go_wp2_with fail
    refine (SameMaps_any A20 A30 c20 c30 Le Le _ Ma.out.1 Mb.out.1 l1 l1).mono ?_
    rw [decide_eq_true rfl]
    rintro e x4 ⟨rfl, hb⟩
    have b : Below x3.heap.size x3 x4 := (by repeat' (first | with_reducible exact Below.refl _ _ | with_reducible assumption | with_reducible apply Below.drew | with_reducible apply below_drewN | with_reducible apply Below.alloc | with_reducible apply Below.setCell | (with_reducible refine Below.trans ?_ (Below.mono (by assumption) ?_)) | (simp; done) | (simp; omega) | omega | with_reducible apply le_size_alloc | with_reducible apply le_size_drewN | with_reducible apply le_size_drew | with_reducible apply le_size_setCell | refine Nat.le_trans ?_ (Below.size (by assumption))))
    clear hb
    replace HS : Hid (CR mapE x4 A c l) := HS.out.ext b
    replace H1 : Hid (CR mapE x4 A1 c1 l) := H1.out.ext b
    replace Ma : Hid (CR mapE x4 A20 c20 Le) := Ma.out.ext b
    replace Fa : Hid (Sl x4 (.int .i64) A21 Lf) := Fa.out.ext b
    replace Mb : Hid (CR mapE x4 A30 c30 Le) := Mb.out.ext b
    replace Fb : Hid (Sl x4 (.int .i64) A31 Lf) := Fb.out.ext b
    replace B : Hid (Below w.heap.size w x4) := B.out.trans (b.mono B.out.size)
    clear b
    clear Ma
    clear Mb
    go_wp2_with fail
    refine (SameInts_any A21 A31 c21 c31 Lf Lf _ Fa.out Fb.out l2 l2).mono ?_
    rw [decide_eq_true rfl]
    rintro e x5 ⟨rfl, hb⟩
    have b : Below x4.heap.size x4 x5 := (by repeat' (first | with_reducible exact Below.refl _ _ | with_reducible assumption | with_reducible apply Below.drew | with_reducible apply below_drewN | with_reducible apply Below.alloc | with_reducible apply Below.setCell | (with_reducible refine Below.trans ?_ (Below.mono (by assumption) ?_)) | (simp; done) | (simp; omega) | omega | with_reducible apply le_size_alloc | with_reducible apply le_size_drewN | with_reducible apply le_size_drew | with_reducible apply le_size_setCell | refine Nat.le_trans ?_ (Below.size (by assumption))))
    clear hb
    replace HS : Hid (CR mapE x5 A c l) := HS.out.ext b
    replace H1 : Hid (CR mapE x5 A1 c1 l) := H1.out.ext b
    replace Fa : Hid (Sl x5 (.int .i64) A21 Lf) := Fa.out.ext b
    replace Fb : Hid (Sl x5 (.int .i64) A31 Lf) := Fb.out.ext b
    replace B : Hid (Below w.heap.size w x5) := B.out.trans (b.mono B.out.size)
    clear b
    clear Fa
    clear Fb
    go_wp2_with fail
    refine (Fork_any A1 c1 l n ch _ H1.out.1 la).mono ?_
    unfold LePost
    rw [HK.out]
    rintro e x6 ⟨A60, c60, rfl, hc60, hb⟩
    have b : Below x5.heap.size x5 x6 := (by repeat' (first | with_reducible exact Below.refl _ _ | with_reducible assumption | with_reducible apply Below.drew | with_reducible apply below_drewN | with_reducible apply Below.alloc | with_reducible apply Below.setCell | (with_reducible refine Below.trans ?_ (Below.mono (by assumption) ?_)) | (simp; done) | (simp; omega) | omega | with_reducible apply le_size_alloc | with_reducible apply le_size_drewN | with_reducible apply le_size_drew | with_reducible apply le_size_setCell | refine Nat.le_trans ?_ (Below.size (by assumption))))
    clear hb
    replace HS : Hid (CR mapE x6 A c l) := HS.out.ext b
    replace H1 : Hid (CR mapE x6 A1 c1 l) := H1.out.ext b
    replace B : Hid (Below w.heap.size w x6) := B.out.trans (b.mono B.out.size)
    have Ma : Hid (CR mapE x6 A60 c60 Lk) := hc60
    clear hc60
    clear b
    go_wp2_with fail
    refine (RFork_any A c l n ch _ HS.out la).mono ?_
    unfold LePost
    rw [HK.out]
    rintro e x7 ⟨A70, c70, rfl, hc70, hb⟩
    have b : Below x6.heap.size x6 x7 := (by repeat' (first | with_reducible exact Below.refl _ _ | with_reducible assumption | with_reducible apply Below.drew | with_reducible apply below_drewN | with_reducible apply Below.alloc | with_reducible apply Below.setCell | (with_reducible refine Below.trans ?_ (Below.mono (by assumption) ?_)) | (simp; done) | (simp; omega) | omega | with_reducible apply le_size_alloc | with_reducible apply le_size_drewN | with_reducible apply le_size_drew | with_reducible apply le_size_setCell | refine Nat.le_trans ?_ (Below.size (by assumption))))
    clear hb
    replace HS : Hid (CR mapE x7 A c l) := HS.out.ext b
    replace H1 : Hid (CR mapE x7 A1 c1 l) := H1.out.ext b
    replace Ma : Hid (CR mapE x7 A60 c60 Lk) := Ma.out.ext b
    replace B : Hid (Below w.heap.size w x7) := B.out.trans (b.mono B.out.size)
    have Mb : Hid (CR mapE x7 A70 c70 Lk) := hc70
    clear hc70
    clear b
    go_wp2_with fail
    refine (SameMaps_any A60 A70 c60 c70 Lk Lk _ Ma.out.1 Mb.out.1 l3 l3).mono ?_
    rw [decide_eq_true rfl]
    rintro e x8 ⟨rfl, hb⟩
    have b : Below x7.heap.size x7 x8 := (by repeat' (first | with_reducible exact Below.refl _ _ | with_reducible assumption | with_reducible apply Below.drew | with_reducible apply below_drewN | with_reducible apply Below.alloc | with_reducible apply Below.setCell | (with_reducible refine Below.trans ?_ (Below.mono (by assumption) ?_)) | (simp; done) | (simp; omega) | omega | with_reducible apply le_size_alloc | with_reducible apply le_size_drewN | with_reducible apply le_size_drew | with_reducible apply le_size_setCell | refine Nat.le_trans ?_ (Below.size (by assumption))))
    clear hb
    replace HS : Hid (CR mapE x8 A c l) := HS.out.ext b
    replace H1 : Hid (CR mapE x8 A1 c1 l) := H1.out.ext b
    replace Ma : Hid (CR mapE x8 A60 c60 Lk) := Ma.out.ext b
    replace Mb : Hid (CR mapE x8 A70 c70 Lk) := Mb.out.ext b
    replace B : Hid (Below w.heap.size w x8) := B.out.trans (b.mono B.out.size)
    clear b
    clear Ma
    clear Mb
    go_wp2_with fail
    refine (SameMaps_any A1 A c1 c l l _ H1.out.1 HS.out.1 la la).mono ?_
    rw [decide_eq_true rfl]
    rintro e x9 ⟨rfl, hb⟩
    have b : Below x8.heap.size x8 x9 := (by repeat' (first | with_reducible exact Below.refl _ _ | with_reducible assumption | with_reducible apply Below.drew | with_reducible apply below_drewN | with_reducible apply Below.alloc | with_reducible apply Below.setCell | (with_reducible refine Below.trans ?_ (Below.mono (by assumption) ?_)) | (simp; done) | (simp; omega) | omega | with_reducible apply le_size_alloc | with_reducible apply le_size_drewN | with_reducible apply le_size_drew | with_reducible apply le_size_setCell | refine Nat.le_trans ?_ (Below.size (by assumption))))
    clear hb
    replace HS : Hid (CR mapE x9 A c l) := HS.out.ext b
    replace H1 : Hid (CR mapE x9 A1 c1 l) := H1.out.ext b
    replace B : Hid (Below w.heap.size w x9) := B.out.trans (b.mono B.out.size)
    clear b
    go_wp2_with fail
    refine (awake_any _).mono ?_
    rintro e x10 ⟨rfl, hb⟩
    have b : Below x9.heap.size x9 x10 := (by repeat' (first | with_reducible exact Below.refl _ _ | with_reducible assumption | with_reducible apply Below.drew | with_reducible apply below_drewN | with_reducible apply Below.alloc | with_reducible apply Below.setCell | (with_reducible refine Below.trans ?_ (Below.mono (by assumption) ?_)) | (simp; done) | (simp; omega) | omega | with_reducible apply le_size_alloc | with_reducible apply le_size_drewN | with_reducible apply le_size_drew | with_reducible apply le_size_setCell | refine Nat.le_trans ?_ (Below.size (by assumption))))
    clear hb
    replace HS : Hid (CR mapE x10 A c l) := HS.out.ext b
    replace H1 : Hid (CR mapE x10 A1 c1 l) := H1.out.ext b
    replace B : Hid (Below w.heap.size w x10) := B.out.trans (b.mono B.out.size)
    clear b
    go_wp2_with fail
    go_ret
    exact ⟨rfl, B.out⟩


set_option maxRecDepth 100000 in
theorem rmapProcs_lifted (os : Os) (started : os.Started) (H : Type) (enc : TypeId × Value → H) :
    ReturnsInHanded {} Try.checked os 4 .any (Rows.rmapProcsSpec.pre6 enc Try.prog Try.f4 Rows.rmapProcsRow.domain false) (Rows.rmapProcsSpec.post enc Try.prog Try.f4 false true false false) := by
  refine returnsInHanded_of_change (C := Try.checked) own started (by kernel_rfl) Try.func4
    (ChangeSpec.witness6 (enc := enc) (C := Try.checked) false ⟨#[], #[.slice none 0 0, .int .i64 0, .int .i64 0], []⟩ 8 (by kernel_rfl) (by kernel_rfl) (by kernel_rfl) (by kernel_rfl)) ?_
  intro W base args ds gs before hval0 hW hcnd _
  have hval : ∀ (j : Nat) t v, Try.f4.params[j]? = some t → args[j]? = some v → Value.okWide Try.prog W .any base t v := hval0
  have hW' := hW
  obtain ⟨p, q, hA0, hV, rfl, hfz, hnd⟩ := hW
  have hA : DataW.TrodAll enc Try.prog W 0 (fun _ => true) true Try.f4.params.toList args.toList ds p := hA0
  rw [Try.params4] at hA hval
  obtain ⟨v0, vs0, d0, ds0, p0, q0, hargs, rfl, rfl, h0, r0⟩ := trodAll_cons hA
  obtain ⟨v1, vs1, d1, ds1, p1, q1, rfl, rfl, rfl, h1, r1⟩ := trodAll_cons r0
  obtain ⟨v2, vs2, d2, ds2, p2, q2, rfl, rfl, rfl, h2, r2⟩ := trodAll_cons r1
  obtain ⟨rfl, rfl, rfl⟩ := trodAll_nil r2
  obtain rfl : args = #[v0, v1, v2] := by cases args; simp_all
  obtain ⟨rfl, rfl⟩ := trodVars_none hV
  obtain ⟨A0, k0, a0, rfl, s0, l0⟩ := open_maps (hval 0 22 v0 rfl rfl) h0
  obtain ⟨a1, rfl, rfl, rfl, w1⟩ := open_int Try.underlying3 (hval 1 3 v1 rfl rfl) h1
  obtain ⟨a2, rfl, rfl, rfl, w2⟩ := open_int Try.underlying3 (hval 2 3 v2 rfl rfl) h2
  clear hA0 hval0
  refine (rmapProcs_walk A0 k0 a0 a1 a2 W s0 l0 w1 w2).mono fun e W' ⟨he, hb⟩ => ⟨_, he, ?_⟩
  exact law_post laidOut (s := Rows.rmapProcsSpec) (B := 4) rfl rfl Try.underlying4 (by decide +kernel) hW' rfl hb

theorem rmapProcs_holds : Rows.RmapProcsSaid :=
  OpenClaim.holds_of_wide 4 Try.f4 rfl rfl rfl rfl rfl rfl rfl ⟨rfl, rfl, rfl, rfl, rfl⟩ rfl rfl rfl rfl rfl (by kernel_rfl) Try.func4 (by kernel_rfl)
    (of_decide_eq_true (by kernel_rfl)) (by unfold Func.isWrapper; first | (rw [if_pos (by decide +kernel)]; kernel_rfl) | (rw [if_neg (by decide +kernel)]; exact ⟨rfl, rfl⟩))
    (fun os started H enc _ => rmapProcs_lifted os started H enc)

end Go.Proofs.Ytbeddhamnefpiaa
