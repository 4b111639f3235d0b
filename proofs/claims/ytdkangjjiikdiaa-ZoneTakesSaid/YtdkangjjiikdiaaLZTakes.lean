/- ZoneTakes: the statement holds for all marks and all four numbers. -/
import Derived.Test.YtdkangjjiikdiaaZoneK
import Derived.Test.YtdkangjjiikdiaaClose
namespace Go.Proofs.Ytdkangjjiikdiaa
open Go.RowKit Go.Maps
open Go.ChangeShapes Go.WideShapes Go.ChangeAt Go.Joins

theorem needsR_form (mn lo hi c free n : Int) : ∃ x g, needsR mn lo hi c free n = .tuple #[.int .i64 x, .int .i64 g] := by
  unfold needsR; (repeat' split) <;> exact ⟨_, _, rfl⟩

set_option maxRecDepth 100000 in
set_option maxHeartbeats 2000000 in
theorem zoneTakes_walk (mn lo hi class_ free n fr : Int) (_hmn : (Lit.int .i64 mn).wf = true) (_hlo : (Lit.int .i64 lo).wf = true) (_hhi : (Lit.int .i64 hi).wf = true) (_hclass_ : (Lit.int .i64 class_).wf = true) (_hfree : (Lit.int .i64 free).wf = true) (_hn : (Lit.int .i64 n).wf = true) (_hfr : (Lit.int .i64 fr).wf = true) (w : World) :
    Calls Try.prog 3 #[.agg #[.int .i64 mn, .int .i64 lo, .int .i64 hi], .int .i64 class_, .int .i64 free, .int .i64 n, .int .i64 fr] w fun e w' => e = .returned (.bool true) ∧ Below w.heap.size w w' := by
  obtain ⟨a, ea, hm⟩ : ∃ a z, mayR mn lo hi class_ free = .tuple #[.bool a, .int .i64 z] := ⟨_, _, rfl⟩
  obtain ⟨got, left, ht, _⟩ := takeR_form mn lo hi class_ free n
  obtain ⟨x, g, hn⟩ := needsR_form mn lo hi class_ free n
  generalize zchd mn lo hi class_ free n = zt at *
  obtain ⟨zc, hc⟩ : ∃ zc, zchk mn lo hi fr = zc := ⟨_, rfl⟩
  have HM := Lib.hid hm; have HT := Lib.hid ht; have HN := Lib.hid hn; have HC := Lib.hid hc
  clear hm ht hn hc
  go_enter Try.func3, Try.ntmps3
  go_wp2_with fail
  refine (May_any _ _ _ _ _ _).mono ?_
  rw [HM.out]
  rintro e w1 ⟨rfl, hw1⟩
  have cw10 : w1.cell? ⟨w.heap.size, 0, none⟩ = some (.int .i64 mn) := cell_keep hw1 (by simp) (by simp)
  have cw11 : w1.cell? ⟨w.heap.size, 1, none⟩ = some (.int .i64 lo) := cell_keep hw1 (by simp) (by simp)
  have cw12 : w1.cell? ⟨w.heap.size, 2, none⟩ = some (.int .i64 hi) := cell_keep hw1 (by simp) (by simp)
  have sw1 : w.heap.size < w1.heap.size := by have := hw1.size; simp at this; omega
  go_wp2_with fail
  refine (rMay_any _ _ _ _ _ _).mono ?_
  rw [HM.out]
  rintro e w2 ⟨rfl, hw2⟩
  have cw20 : w2.cell? ⟨w.heap.size, 0, none⟩ = some (.int .i64 mn) := cell_keep hw2 cw10 sw1
  have cw21 : w2.cell? ⟨w.heap.size, 1, none⟩ = some (.int .i64 lo) := cell_keep hw2 cw11 sw1
  have cw22 : w2.cell? ⟨w.heap.size, 2, none⟩ = some (.int .i64 hi) := cell_keep hw2 cw12 sw1
  have sw2 : w.heap.size < w2.heap.size := Nat.lt_of_lt_of_le sw1 hw2.size
  clear cw10 cw11 cw12
  go_wp2_with fail
  go_region_held3 (fun W => W.cell? ⟨w.heap.size, 0, none⟩ = some (.int .i64 mn) ∧ W.cell? ⟨w.heap.size, 1, none⟩ = some (.int .i64 lo) ∧ W.cell? ⟨w.heap.size, 2, none⟩ = some (.int .i64 hi))
    (refine ⟨?_, ?_, ?_⟩ <;> (refine cell_keep (B := w.heap.size + 1) (a := w2) (by repeat' (first | with_reducible exact Below.refl _ _ | with_reducible assumption | with_reducible apply Below.drew | with_reducible apply below_drewN | with_reducible apply Below.alloc | with_reducible apply Below.setCell | (with_reducible refine Below.trans ?_ (Below.mono (by assumption) ?_)) | (simp; done) | (simp; omega) | omega | with_reducible apply le_size_alloc | with_reducible apply le_size_drewN | refine Nat.le_trans ?_ (Below.size (by assumption)))) (by assumption) (by simp)))
    (first | (go_at_call 11; refine (Check_any _ _ _ _ _).mono ?_; rw [HC.out]; rintro e w3 ⟨rfl, hw3⟩) | (go_at_call 12; refine (rCheck_any _ _ _ _ _).mono ?_; rw [HC.out]; rintro e w4 ⟨rfl, hw4⟩))
  have cw30 : w3.cell? ⟨w.heap.size, 0, none⟩ = some (.int .i64 mn) := cell_keep hw3 cw20 sw2
  have cw31 : w3.cell? ⟨w.heap.size, 1, none⟩ = some (.int .i64 lo) := cell_keep hw3 cw21 sw2
  have cw32 : w3.cell? ⟨w.heap.size, 2, none⟩ = some (.int .i64 hi) := cell_keep hw3 cw22 sw2
  have sw3 : w.heap.size < w3.heap.size := Nat.lt_of_lt_of_le sw2 hw3.size
  clear cw20 cw21 cw22
  have cw40 : w4.cell? ⟨w.heap.size, 0, none⟩ = some (.int .i64 mn) := cell_keep hw4 cw30 sw3
  have cw41 : w4.cell? ⟨w.heap.size, 1, none⟩ = some (.int .i64 lo) := cell_keep hw4 cw31 sw3
  have cw42 : w4.cell? ⟨w.heap.size, 2, none⟩ = some (.int .i64 hi) := cell_keep hw4 cw32 sw3
  have sw4 : w.heap.size < w4.heap.size := Nat.lt_of_lt_of_le sw3 hw4.size
  clear cw30 cw31 cw32
  go_wp2_with fail
  refine (Take_any _ _ _ _ _ _ _).mono ?_
  rw [HT.out]
  rintro e w5 ⟨rfl, hw5⟩
  have cw50 : w5.cell? ⟨w.heap.size, 0, none⟩ = some (.int .i64 mn) := cell_keep hw5 cw40 sw4
  have cw51 : w5.cell? ⟨w.heap.size, 1, none⟩ = some (.int .i64 lo) := cell_keep hw5 cw41 sw4
  have cw52 : w5.cell? ⟨w.heap.size, 2, none⟩ = some (.int .i64 hi) := cell_keep hw5 cw42 sw4
  have sw5 : w.heap.size < w5.heap.size := Nat.lt_of_lt_of_le sw4 hw5.size
  clear cw40 cw41 cw42
  go_wp2_with fail
  refine (rTake_any _ _ _ _ _ _ _).mono ?_
  rw [HT.out]
  rintro e w6 ⟨rfl, hw6⟩
  have cw60 : w6.cell? ⟨w.heap.size, 0, none⟩ = some (.int .i64 mn) := cell_keep hw6 cw50 sw5
  have cw61 : w6.cell? ⟨w.heap.size, 1, none⟩ = some (.int .i64 lo) := cell_keep hw6 cw51 sw5
  have cw62 : w6.cell? ⟨w.heap.size, 2, none⟩ = some (.int .i64 hi) := cell_keep hw6 cw52 sw5
  have sw6 : w.heap.size < w6.heap.size := Nat.lt_of_lt_of_le sw5 hw6.size
  clear cw50 cw51 cw52
  go_wp2_with fail
  refine (Needs_any _ _ _ _ _ _ _).mono ?_
  rw [HN.out]
  rintro e w7 ⟨rfl, hw7⟩
  have cw70 : w7.cell? ⟨w.heap.size, 0, none⟩ = some (.int .i64 mn) := cell_keep hw7 cw60 sw6
  have cw71 : w7.cell? ⟨w.heap.size, 1, none⟩ = some (.int .i64 lo) := cell_keep hw7 cw61 sw6
  have cw72 : w7.cell? ⟨w.heap.size, 2, none⟩ = some (.int .i64 hi) := cell_keep hw7 cw62 sw6
  have sw7 : w.heap.size < w7.heap.size := Nat.lt_of_lt_of_le sw6 hw7.size
  clear cw60 cw61 cw62
  go_wp2_with fail
  refine (rNeeds_any _ _ _ _ _ _ _).mono ?_
  rw [HN.out]
  rintro e w8 ⟨rfl, hw8⟩
  have cw80 : w8.cell? ⟨w.heap.size, 0, none⟩ = some (.int .i64 mn) := cell_keep hw8 cw70 sw7
  have cw81 : w8.cell? ⟨w.heap.size, 1, none⟩ = some (.int .i64 lo) := cell_keep hw8 cw71 sw7
  have cw82 : w8.cell? ⟨w.heap.size, 2, none⟩ = some (.int .i64 hi) := cell_keep hw8 cw72 sw7
  have sw8 : w.heap.size < w8.heap.size := Nat.lt_of_lt_of_le sw7 hw8.size
  clear cw70 cw71 cw72
  go_wp2_with fail
  refine (awake_any _).mono ?_
  rintro e w9 ⟨rfl, hw9⟩
  go_wp2
  go_ret
  exact ⟨by simp, (by repeat' (first | with_reducible exact Below.refl _ _ | with_reducible assumption | with_reducible apply Below.drew | with_reducible apply below_drewN | with_reducible apply Below.alloc | with_reducible apply Below.setCell | (with_reducible refine Below.trans ?_ (Below.mono (by assumption) ?_)) | (simp; done) | (simp; omega) | omega | with_reducible apply le_size_alloc | with_reducible apply le_size_drewN | refine Nat.le_trans ?_ (Below.size (by assumption))))⟩

set_option maxRecDepth 100000 in
theorem zoneTakes_lifted (os : Os) (started : os.Started) (H : Type) (enc : TypeId × Value → H) :
    ReturnsInHanded {} Try.checked os 3 .any (Rows.zoneTakesSpec.pre6 enc Try.prog Try.f3 Rows.zoneTakesRow.domain false) (Rows.zoneTakesSpec.post enc Try.prog Try.f3 false true false false) := by
  refine returnsInHanded_of_change (C := Try.checked) own started (by kernel_rfl) Try.func3
    (ChangeSpec.witness6 (enc := enc) (C := Try.checked) false ⟨#[], #[.agg #[.int .i64 0, .int .i64 0, .int .i64 0], .int .i64 0, .int .i64 0, .int .i64 0, .int .i64 0], []⟩ 8 (by kernel_rfl) (by kernel_rfl) (by kernel_rfl) (by kernel_rfl)) ?_
  intro W base args ds gs before hval0 hW hcnd _
  have hval : ∀ (j : Nat) t v, Try.f3.params[j]? = some t → args[j]? = some v → Value.okWide Try.prog W .any base t v := hval0
  have hW' := hW
  obtain ⟨p, q, hA0, hV, rfl, hfz, hnd⟩ := hW
  have hA : DataW.TrodAll enc Try.prog W 0 (fun _ => true) true Try.f3.params.toList args.toList ds p := hA0
  rw [Try.params3] at hA hval
  obtain ⟨v0, vs0, d0, ds0, p0, q0, hargs, rfl, rfl, h0, r0⟩ := trodAll_cons hA
  obtain ⟨v1, vs1, d1, ds1, p1, q1, rfl, rfl, rfl, h1, r1⟩ := trodAll_cons r0
  obtain ⟨v2, vs2, d2, ds2, p2, q2, rfl, rfl, rfl, h2, r2⟩ := trodAll_cons r1
  obtain ⟨v3, vs3, d3, ds3, p3, q3, rfl, rfl, rfl, h3, r3⟩ := trodAll_cons r2
  obtain ⟨v4, vs4, d4, ds4, p4, q4, rfl, rfl, rfl, h4, r4⟩ := trodAll_cons r3
  obtain ⟨rfl, rfl, rfl⟩ := trodAll_nil r4
  obtain rfl : args = #[v0, v1, v2, v3, v4] := by cases args; simp_all
  obtain ⟨rfl, rfl⟩ := trodVars_none hV
  obtain ⟨c00, c01, c02, y00, y01, y02, m0, rfl, rfl, rfl, hy00, hy01, hy02⟩ := open_agg3 Try.underlying23 (by kernel_rfl) (by kernel_rfl) (hval 0 23 v0 rfl rfl) h0
  obtain ⟨a00, e00, f00, w00⟩ := DataW.trod_int Try.underlying3 hy00
  simp at e00; subst e00
  obtain ⟨a01, e01, f01, w01⟩ := DataW.trod_int Try.underlying3 hy01
  simp at e01; subst e01
  obtain ⟨a02, e02, f02, w02⟩ := DataW.trod_int Try.underlying3 hy02
  simp at e02; subst e02
  obtain ⟨a1, rfl, rfl, rfl, w1⟩ := open_int Try.underlying3 (hval 1 3 v1 rfl rfl) h1
  obtain ⟨a2, rfl, rfl, rfl, w2⟩ := open_int Try.underlying3 (hval 2 3 v2 rfl rfl) h2
  obtain ⟨a3, rfl, rfl, rfl, w3⟩ := open_int Try.underlying3 (hval 3 3 v3 rfl rfl) h3
  obtain ⟨a4, rfl, rfl, rfl, w4⟩ := open_int Try.underlying3 (hval 4 3 v4 rfl rfl) h4
  clear hA0 hval0
  refine (zoneTakes_walk a00 a01 a02 a1 a2 a3 a4 w00 w01 w02 w1 w2 w3 w4 W).mono fun e W' ⟨he, hb⟩ => ⟨_, he, ?_⟩
  exact law_post laidOut (s := Rows.zoneTakesSpec) (B := 4) rfl rfl Try.underlying4 (by decide +kernel) hW' rfl hb

theorem zoneTakes_holds : Rows.ZoneTakesSaid :=
  OpenClaim.holds_of_wide 3 Try.f3 rfl rfl rfl rfl rfl rfl rfl ⟨rfl, rfl, rfl, rfl, rfl⟩ rfl rfl rfl rfl rfl (by kernel_rfl) Try.func3 (by kernel_rfl)
    (of_decide_eq_true (by kernel_rfl)) (by unfold Func.isWrapper; first | (rw [if_pos (by decide +kernel)]; kernel_rfl) | (rw [if_neg (by decide +kernel)]; exact ⟨rfl, rfl⟩))
    (fun os started H enc _ => zoneTakes_lifted os started H enc)

end Go.Proofs.Ytdkangjjiikdiaa
