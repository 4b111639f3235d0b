/- ZoneFits: the statement holds for all configurations. -/
import Derived.Test.YtdkangjjiikdiaaZF4
import Derived.Test.YtdkangjjiikdiaaClose
import Derived.Test.YtdkangjjiikdiaaAgg
namespace Go.Proofs.Ytdkangjjiikdiaa
set_option linter.unusedSimpArgs false
set_option linter.unusedVariables false
open Go.RowKit Go.Maps
open Go.ChangeShapes Go.WideShapes Go.ChangeAt Go.Joins

theorem fitV_form (mn lo hi r : Int) : ∃ x y u : Int, fitV mn lo hi r = .tuple #[.agg #[.int .i64 x, .int .i64 y, .int .i64 u], .int .i64 r] := by
  unfold fitV marksV
  split <;> exact ⟨_, _, _, rfl⟩

set_option maxRecDepth 100000 in
set_option maxHeartbeats 4000000 in
theorem zoneFits_walk (F L S C Q mn lo hi M : Int) (_hF : (Lit.int .i64 F).wf = true) (_hL : (Lit.int .i64 L).wf = true) (_hS : (Lit.int .i64 S).wf = true) (_hC : (Lit.int .i64 C).wf = true) (_hQ : (Lit.int .i64 Q).wf = true) (_hmn : (Lit.int .i64 mn).wf = true) (_hlo : (Lit.int .i64 lo).wf = true) (_hhi : (Lit.int .i64 hi).wf = true) (_hM : (Lit.int .i64 M).wf = true) (w : World) :
    Calls Try.prog 8 #[.agg #[.int .i64 F, .int .i64 L, .int .i64 S, .int .i64 C, .int .i64 Q, .int .i64 mn, .int .i64 lo, .int .i64 hi, .int .i64 M]] w fun e w' => e = .returned (.bool true) ∧ Below w.heap.size w w' := by
  obtain ⟨r, hr⟩ : ∃ r, fitE F L S C Q mn lo hi M = r := ⟨_, rfl⟩
  obtain ⟨x, y, u, hf⟩ := fitV_form mn lo hi r
  have C1 : ∀ w, Calls Try.prog 30 #[.agg #[.int .i64 F, .int .i64 L, .int .i64 S, .int .i64 C, .int .i64 Q, .int .i64 mn, .int .i64 lo, .int .i64 hi, .int .i64 M]] w fun e w' => e = .returned (.tuple #[.agg #[.int .i64 x, .int .i64 y, .int .i64 u], .int .i64 r]) ∧ Below w.heap.size w w' := fun w => by
    have := Fit_any F L S C Q mn lo hi M w
    rw [hr, hf] at this
    exact this
  have C2 : ∀ w, Calls Try.prog 31 #[.agg #[.int .i64 F, .int .i64 L, .int .i64 S, .int .i64 C, .int .i64 Q, .int .i64 mn, .int .i64 lo, .int .i64 hi, .int .i64 M]] w fun e w' => e = .returned (.tuple #[.agg #[.int .i64 x, .int .i64 y, .int .i64 u], .int .i64 r]) ∧ Below w.heap.size w w' := fun w => by
    have := rFit_any F L S C Q mn lo hi M w
    rw [hr, hf] at this
    exact this
  clear hr hf
  go_enter Try.func8, Try.ntmps8
  go_wp2_with fail
  refine (C1 _).mono ?_
  rintro e w1 ⟨rfl, hw1⟩
  have sw1 : w.heap.size < w1.heap.size := by have := hw1.size; simp at this; omega
  have k0 : Blk w1 w.heap.size 46 #[.int .i64 F, .int .i64 L, .int .i64 S, .int .i64 C, .int .i64 Q, .int .i64 mn, .int .i64 lo, .int .i64 hi, .int .i64 M] := (Blk.new_ rfl rfl).below_ hw1 (by simp)
  have c0 := k0.cell_ 0; have c1 := k0.cell_ 1; have c2 := k0.cell_ 2; have c3 := k0.cell_ 3; have c4 := k0.cell_ 4; have c5 := k0.cell_ 5; have c6 := k0.cell_ 6; have c7 := k0.cell_ 7; have c8 := k0.cell_ 8
  simp at c0 c1 c2 c3 c4 c5 c6 c7 c8
  clear k0
  go_wp2_with fail
  refine (C2 _).mono ?_
  rintro e w2 ⟨rfl, hw2⟩
  have q0 : w2.cell? ⟨w1.heap.size, 0, none⟩ = some (.int .i64 x) := cell_keep hw2 (by simp) (by simp)
  have q1 : w2.cell? ⟨w1.heap.size, 1, none⟩ = some (.int .i64 y) := cell_keep hw2 (by simp) (by simp)
  have q2 : w2.cell? ⟨w1.heap.size, 2, none⟩ = some (.int .i64 u) := cell_keep hw2 (by simp) (by simp)
  have sw2 : w1.heap.size < w2.heap.size := by have := hw2.size; simp at this; omega
  go_wp2_with fail
  refine (awake_any _).mono ?_
  rintro e w3 ⟨rfl, hw3⟩
  go_wp2
  go_ret
  exact ⟨by simp, (by repeat' (first | with_reducible exact Below.refl _ _ | with_reducible assumption | with_reducible apply Below.drew | with_reducible apply below_drewN | with_reducible apply Below.alloc | with_reducible apply Below.setCell | (with_reducible refine Below.trans ?_ (Below.mono (by assumption) ?_)) | (simp; done) | (simp; omega) | omega | with_reducible apply le_size_alloc | with_reducible apply le_size_drewN | with_reducible apply le_size_drew | with_reducible apply le_size_setCell | refine Nat.le_trans ?_ (Below.size (by assumption))))⟩

set_option maxRecDepth 100000 in
theorem zoneFits_lifted (os : Os) (started : os.Started) (H : Type) (enc : TypeId × Value → H) :
    ReturnsInHanded {} Try.checked os 8 .any (Rows.zoneFitsSpec.pre6 enc Try.prog Try.f8 Rows.zoneFitsRow.domain false) (Rows.zoneFitsSpec.post enc Try.prog Try.f8 false true false false) := by
  refine returnsInHanded_of_change (C := Try.checked) own started (by kernel_rfl) Try.func8
    (ChangeSpec.witness6 (enc := enc) (C := Try.checked) false ⟨#[], #[.agg #[.int .i64 0, .int .i64 0, .int .i64 0, .int .i64 0, .int .i64 0, .int .i64 0, .int .i64 0, .int .i64 0, .int .i64 0]], []⟩ 8 (by kernel_rfl) (by kernel_rfl) (by kernel_rfl) (by kernel_rfl)) ?_
  intro W base args ds gs before hval0 hW hcnd _
  have hval : ∀ (j : Nat) t v, Try.f8.params[j]? = some t → args[j]? = some v → Value.okWide Try.prog W .any base t v := hval0
  have hW' := hW
  obtain ⟨p, q, hA0, hV, rfl, hfz, hnd⟩ := hW
  have hA : DataW.TrodAll enc Try.prog W 0 (fun _ => true) true Try.f8.params.toList args.toList ds p := hA0
  rw [Try.params8] at hA hval
  obtain ⟨v0, vs0, d0, ds0, p0, q0, hargs, rfl, rfl, h0, r0⟩ := trodAll_cons hA
  obtain ⟨rfl, rfl, rfl⟩ := trodAll_nil r0
  obtain rfl : args = #[v0] := by cases args; simp_all
  obtain ⟨rfl, rfl⟩ := trodVars_none hV
  obtain ⟨c00, c01, c02, c03, c04, c05, c06, c07, c08, y00, y01, y02, y03, y04, y05, y06, y07, y08, m0, rfl, rfl, rfl, hy00, hy01, hy02, hy03, hy04, hy05, hy06, hy07, hy08⟩ := open_agg9 Try.underlying46 (by kernel_rfl) (by kernel_rfl) (hval 0 46 v0 rfl rfl) h0
  obtain ⟨a00, e00, f00, w00⟩ := DataW.trod_int Try.underlying3 hy00
  simp at e00; subst e00
  obtain ⟨a01, e01, f01, w01⟩ := DataW.trod_int Try.underlying3 hy01
  simp at e01; subst e01
  obtain ⟨a02, e02, f02, w02⟩ := DataW.trod_int Try.underlying3 hy02
  simp at e02; subst e02
  obtain ⟨a03, e03, f03, w03⟩ := DataW.trod_int Try.underlying3 hy03
  simp at e03; subst e03
  obtain ⟨a04, e04, f04, w04⟩ := DataW.trod_int Try.underlying3 hy04
  simp at e04; subst e04
  obtain ⟨a05, e05, f05, w05⟩ := DataW.trod_int Try.underlying3 hy05
  simp at e05; subst e05
  obtain ⟨a06, e06, f06, w06⟩ := DataW.trod_int Try.underlying3 hy06
  simp at e06; subst e06
  obtain ⟨a07, e07, f07, w07⟩ := DataW.trod_int Try.underlying3 hy07
  simp at e07; subst e07
  obtain ⟨a08, e08, f08, w08⟩ := DataW.trod_int Try.underlying3 hy08
  simp at e08; subst e08
  clear hA0 hval0
  refine (zoneFits_walk a00 a01 a02 a03 a04 a05 a06 a07 a08 w00 w01 w02 w03 w04 w05 w06 w07 w08 W).mono fun e W' ⟨he, hb⟩ => ⟨_, he, ?_⟩
  exact law_post laidOut (s := Rows.zoneFitsSpec) (B := 4) rfl rfl Try.underlying4 (by decide +kernel) hW' rfl hb

theorem zoneFits_holds : Rows.ZoneFitsSaid :=
  OpenClaim.holds_of_wide 8 Try.f8 rfl rfl rfl rfl rfl rfl rfl ⟨rfl, rfl, rfl, rfl, rfl⟩ rfl rfl rfl rfl rfl (by kernel_rfl) Try.func8 (by kernel_rfl)
    (of_decide_eq_true (by kernel_rfl)) (by unfold Func.isWrapper; first | (rw [if_pos (by decide +kernel)]; kernel_rfl) | (rw [if_neg (by decide +kernel)]; exact ⟨rfl, rfl⟩))
    (fun os started H enc _ => zoneFits_lifted os started H enc)

end Go.Proofs.Ytdkangjjiikdiaa
