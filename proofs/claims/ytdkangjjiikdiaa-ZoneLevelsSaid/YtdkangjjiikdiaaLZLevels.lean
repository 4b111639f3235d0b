/- ZoneLevels: the statement holds for all marks, every number, both states. -/
import Derived.Test.YtdkangjjiikdiaaZoneK
import Derived.Test.YtdkangjjiikdiaaClose
namespace Go.Proofs.Ytdkangjjiikdiaa
open Go.RowKit Go.Maps
open Go.ChangeShapes Go.WideShapes Go.ChangeAt Go.Joins

theorem levelR_form (mn lo hi free : Int) : ∃ x g, levelR mn lo hi free = .tuple #[.int .i64 x, .int .i64 g] := by
  unfold levelR; split <;> exact ⟨_, _, rfl⟩
theorem awakeR_form (mn lo hi free : Int) (was : Bool) : ∃ x g, awakeR mn lo hi free was = .tuple #[.bool x, .int .i64 g] := by
  unfold awakeR; split <;> exact ⟨_, _, rfl⟩

set_option maxRecDepth 100000 in
set_option maxHeartbeats 2000000 in
theorem zoneLevels_walk (mn lo hi free : Int) (was : Bool) (_hmn : (Lit.int .i64 mn).wf = true) (_hlo : (Lit.int .i64 lo).wf = true) (_hhi : (Lit.int .i64 hi).wf = true) (_hfree : (Lit.int .i64 free).wf = true) (w : World) :
    Calls Try.prog 4 #[.agg #[.int .i64 mn, .int .i64 lo, .int .i64 hi], .int .i64 free, .bool was] w fun e w' => e = .returned (.bool true) ∧ Below w.heap.size w w' := by
  obtain ⟨x, g, hl⟩ := levelR_form mn lo hi free
  obtain ⟨y, h, ha⟩ := awakeR_form mn lo hi free was
  have HL := Lib.hid hl; have HA := Lib.hid ha
  clear hl ha
  go_enter Try.func4, Try.ntmps4
  go_wp2_with fail
  refine (Level_any _ _ _ _ _).mono ?_
  rw [HL.out]
  rintro e w1 ⟨rfl, hw1⟩
  have cw10 : w1.cell? ⟨w.heap.size, 0, none⟩ = some (.int .i64 mn) := cell_keep hw1 (by simp) (by simp)
  have cw11 : w1.cell? ⟨w.heap.size, 1, none⟩ = some (.int .i64 lo) := cell_keep hw1 (by simp) (by simp)
  have cw12 : w1.cell? ⟨w.heap.size, 2, none⟩ = some (.int .i64 hi) := cell_keep hw1 (by simp) (by simp)
  have sw1 : w.heap.size < w1.heap.size := by have := hw1.size; simp at this; omega
  go_wp2_with fail
  refine (rLevel_any _ _ _ _ _).mono ?_
  rw [HL.out]
  rintro e w2 ⟨rfl, hw2⟩
  have cw20 : w2.cell? ⟨w.heap.size, 0, none⟩ = some (.int .i64 mn) := cell_keep hw2 cw10 sw1
  have cw21 : w2.cell? ⟨w.heap.size, 1, none⟩ = some (.int .i64 lo) := cell_keep hw2 cw11 sw1
  have cw22 : w2.cell? ⟨w.heap.size, 2, none⟩ = some (.int .i64 hi) := cell_keep hw2 cw12 sw1
  have sw2 : w.heap.size < w2.heap.size := Nat.lt_of_lt_of_le sw1 hw2.size
  clear cw10 cw11 cw12
  go_wp2_with fail
  refine (Awake_any _ _ _ _ _ _).mono ?_
  rw [HA.out]
  rintro e w3 ⟨rfl, hw3⟩
  have cw30 : w3.cell? ⟨w.heap.size, 0, none⟩ = some (.int .i64 mn) := cell_keep hw3 cw20 sw2
  have cw31 : w3.cell? ⟨w.heap.size, 1, none⟩ = some (.int .i64 lo) := cell_keep hw3 cw21 sw2
  have cw32 : w3.cell? ⟨w.heap.size, 2, none⟩ = some (.int .i64 hi) := cell_keep hw3 cw22 sw2
  have sw3 : w.heap.size < w3.heap.size := Nat.lt_of_lt_of_le sw2 hw3.size
  clear cw20 cw21 cw22
  go_wp2_with fail
  refine (rAwake_any _ _ _ _ _ _).mono ?_
  rw [HA.out]
  rintro e w4 ⟨rfl, hw4⟩
  have cw40 : w4.cell? ⟨w.heap.size, 0, none⟩ = some (.int .i64 mn) := cell_keep hw4 cw30 sw3
  have cw41 : w4.cell? ⟨w.heap.size, 1, none⟩ = some (.int .i64 lo) := cell_keep hw4 cw31 sw3
  have cw42 : w4.cell? ⟨w.heap.size, 2, none⟩ = some (.int .i64 hi) := cell_keep hw4 cw32 sw3
  have sw4 : w.heap.size < w4.heap.size := Nat.lt_of_lt_of_le sw3 hw4.size
  clear cw30 cw31 cw32
  go_wp2_with fail
  refine (awake_any _).mono ?_
  rintro e w5 ⟨rfl, hw5⟩
  go_wp2
  go_ret
  exact ⟨by simp, (by repeat' (first | with_reducible exact Below.refl _ _ | with_reducible assumption | with_reducible apply Below.drew | with_reducible apply below_drewN | with_reducible apply Below.alloc | with_reducible apply Below.setCell | (with_reducible refine Below.trans ?_ (Below.mono (by assumption) ?_)) | (simp; done) | (simp; omega) | omega | with_reducible apply le_size_alloc | with_reducible apply le_size_drewN | refine Nat.le_trans ?_ (Below.size (by assumption))))⟩

set_option maxRecDepth 100000 in
theorem zoneLevels_lifted (os : Os) (started : os.Started) (H : Type) (enc : TypeId × Value → H) :
    ReturnsInHanded {} Try.checked os 4 .any (Rows.zoneLevelsSpec.pre6 enc Try.prog Try.f4 Rows.zoneLevelsRow.domain false) (Rows.zoneLevelsSpec.post enc Try.prog Try.f4 false true false false) := by
  refine returnsInHanded_of_change (C := Try.checked) own started (by kernel_rfl) Try.func4
    (ChangeSpec.witness6 (enc := enc) (C := Try.checked) false ⟨#[], #[.agg #[.int .i64 0, .int .i64 0, .int .i64 0], .int .i64 0, .bool false], []⟩ 8 (by kernel_rfl) (by kernel_rfl) (by kernel_rfl) (by kernel_rfl)) ?_
  intro W base args ds gs before hval0 hW hcnd _
  have hval : ∀ (j : Nat) t v, Try.f4.params[j]? = some t → args[j]? = some v → Value.okWide Try.prog W .any base t v := hval0
  have hW' := hW
  obtain ⟨p, q, hA0, hV, rfl, hfz, hnd⟩ := hW
  have hA : DataW.TrodAll enc Try.prog W 0 (fun _ => true) true Try.f4.params.toList args.toList ds p := hA0
  rw [Try.params4] at hA hval
  obtain ⟨v0, vs0, d0, ds0, p0, q0, hargs, rfl, rfl, h0, r0⟩ := trodAll_cons hA
  obtain ⟨v1, vs1, d1, ds1, p1, q1, rfl, rfl, rfl, h1, r1⟩ := trodAll_cons r0
  obtain ⟨v2, vs2, d2, ds2, p2, q2, rfl, rfl, rfl, h2, r2⟩ := trodAll_cons r1
  obtain ⟨rfl, rfl, rfl⟩ := trodAll_nil r2
  obtain rfl : args = #[v0, v1, v2] := by cases args; simp_all
  obtain ⟨rfl, rfl⟩ := trodVars_none hV
  obtain ⟨c00, c01, c02, y00, y01, y02, m0, rfl, rfl, rfl, hy00, hy01, hy02⟩ := open_agg3 Try.underlying23 (by kernel_rfl) (by kernel_rfl) (hval 0 23 v0 rfl rfl) h0
  obtain ⟨a00, e00, f00, w00⟩ := DataW.trod_int Try.underlying3 hy00
  simp at e00; subst e00
  obtain ⟨a01, e01, f01, w01⟩ := DataW.trod_int Try.underlying3 hy01
  simp at e01; subst e01
  obtain ⟨a02, e02, f02, w02⟩ := DataW.trod_int Try.underlying3 hy02
  simp at e02; subst e02
  obtain ⟨a1, rfl, rfl, rfl, w1⟩ := open_int Try.underlying3 (hval 1 3 v1 rfl rfl) h1
  obtain ⟨a2, rfl, rfl, rfl⟩ := open_bool Try.underlying4 (hval 2 4 v2 rfl rfl) h2
  clear hA0 hval0
  refine (zoneLevels_walk a00 a01 a02 a1 a2 w00 w01 w02 w1 W).mono fun e W' ⟨he, hb⟩ => ⟨_, he, ?_⟩
  exact law_post laidOut (s := Rows.zoneLevelsSpec) (B := 4) rfl rfl Try.underlying4 (by decide +kernel) hW' rfl hb

theorem zoneLevels_holds : Rows.ZoneLevelsSaid :=
  OpenClaim.holds_of_wide 4 Try.f4 rfl rfl rfl rfl rfl rfl rfl ⟨rfl, rfl, rfl, rfl, rfl⟩ rfl rfl rfl rfl rfl (by kernel_rfl) Try.func4 (by kernel_rfl)
    (of_decide_eq_true (by kernel_rfl)) (by unfold Func.isWrapper; first | (rw [if_pos (by decide +kernel)]; kernel_rfl) | (rw [if_neg (by decide +kernel)]; exact ⟨rfl, rfl⟩))
    (fun os started H enc _ => zoneLevels_lifted os started H enc)

end Go.Proofs.Ytdkangjjiikdiaa
