/- headgatelaw34.tally. Written by gen_ow6.py. No statement is proved here. -/
import Derived.Test.YtmbpjafiinfkkaaGreatDoorOW5
namespace Go.Proofs.YtmbpjafiinfkkaaGreatDoor
set_option linter.unusedSimpArgs false
set_option linter.unusedVariables false
open Go.RowKit Go.Maps

structure TalOk (t : TL) : Prop where
  fr : 0 ≤ t.fr ∧ t.fr ≤ 6
  mn : t.mn = 3
  lw : t.lw = 6
  hi : t.hi = 9
  ob : 0 ≤ t.ob ∧ t.ob ≤ 2
  ac : 0 ≤ t.ac ∧ t.ac ≤ 2
  ina : 0 ≤ t.ina ∧ t.ina ≤ 2
  tg : t.tg = 2
  wr : 0 ≤ t.wr ∧ t.wr ≤ 2
  cp : t.cp = 2
  orp : 0 ≤ t.orp ∧ t.orp ≤ 1
  rm : 0 ≤ t.rm ∧ t.rm ≤ 1
  sl : 0 ≤ t.sl ∧ t.sl ≤ 2
  rf : t.rf = true → 0 < t.ina
theorem tmod_rng (q : Int) (m : Int) (hq : 0 ≤ q) (hm : 0 < m) : 0 ≤ q.tmod m ∧ q.tmod m ≤ m - 1 := by
  have h1 := Int.tmod_nonneg m hq
  have h2 := Int.tmod_lt_of_pos q hm
  omega
theorem tdiv_rng (q : Int) (m : Int) (hq : 0 ≤ q) (hq2 : q ≤ 1073741824) (hm : 0 < m) : 0 ≤ q.tdiv m ∧ q.tdiv m ≤ 1073741824 := by
  have h1 := Int.tdiv_nonneg hq (Int.le_of_lt hm)
  have h2 : q.tdiv m ≤ q := by
    rw [Int.tdiv_eq_ediv_of_nonneg hq]
    exact Int.ediv_le_self _ hq
  omega

set_option maxRecDepth 100000 in
set_option maxHeartbeats 8000000 in
theorem tally_any (n : Int) (w : World) : Calls Tryz.prog 40 #[.int .i64 n] w fun e w' => (∃ t, TalOk t ∧ e = .returned (.agg (tlC t))) ∧ Below w.heap.size w w' := by
  have HP : ∀ (fr ob ac ina wr orp rm sl : Int) (rf aw : Bool) (e : Ending) (w' : World), (0 ≤ fr ∧ fr ≤ 6) → (0 ≤ ob ∧ ob ≤ 2) → (0 ≤ ac ∧ ac ≤ 2) → (0 ≤ ina ∧ ina ≤ 2) → (0 ≤ wr ∧ wr ≤ 2) → (0 ≤ orp ∧ orp ≤ 1) → (0 ≤ rm ∧ rm ≤ 1) → (0 ≤ sl ∧ sl ≤ 2) → (rf = true → 0 < ina) → e = .returned (.agg #[.int .i64 fr, .int .i64 3, .int .i64 6, .int .i64 9, .bool aw, .int .i64 ob, .int .i64 ac, .int .i64 ina, .int .i64 2, .bool rf, .int .i64 wr, .int .i64 2, .int .i64 orp, .int .i64 rm, .int .i64 sl]) → Below w.heap.size w w' → (∃ t, TalOk t ∧ e = .returned (.agg (tlC t))) ∧ Below w.heap.size w w' := fun fr ob ac ina wr orp rm sl rf aw e w' h1 h2 h3 h4 h5 h6 h7 h8 h9 he hb =>
    ⟨⟨⟨fr, 3, 6, 9, aw, ob, ac, ina, 2, rf, wr, 2, orp, rm, sl⟩, ⟨h1, rfl, rfl, rfl, h2, h3, h4, rfl, h5, rfl, h6, h7, h8, h9⟩, he⟩, hb⟩
  go_enter Tryz.func40, Tryz.ntmps40
  go_wp2_with fail
  refine (mod_ex _ 1073741824 _ (by omega) (by omega)).mono ?_
  rintro e w1 ⟨m, hm, rfl, rfl⟩
  have m0 : (0 : Int) ≤ m := by omega
  have m1 : (m : Int) ≤ 1073741824 := by omega
  generalize (m : Int) = M at *
  clear hm m
  have d7 := tdiv_rng M 7 m0 m1 (by decide)
  have d21 := tdiv_rng M 21 m0 m1 (by decide)
  have d63 := tdiv_rng M 63 m0 m1 (by decide)
  have d189 := tdiv_rng M 189 m0 m1 (by decide)
  have d567 := tdiv_rng M 567 m0 m1 (by decide)
  have d1134 := tdiv_rng M 1134 m0 m1 (by decide)
  have d2268 := tdiv_rng M 2268 m0 m1 (by decide)
  have d6804 := tdiv_rng M 6804 m0 m1 (by decide)
  have d13608 := tdiv_rng M 13608 m0 m1 (by decide)
  have r0 := tmod_rng M 7 m0 (by decide)
  have r7 := tmod_rng (M.tdiv 7) 3 d7.1 (by decide)
  have r21 := tmod_rng (M.tdiv 21) 3 d21.1 (by decide)
  have r63 := tmod_rng (M.tdiv 63) 3 d63.1 (by decide)
  have r189 := tmod_rng (M.tdiv 189) 3 d189.1 (by decide)
  have r567 := tmod_rng (M.tdiv 567) 2 d567.1 (by decide)
  have r1134 := tmod_rng (M.tdiv 1134) 2 d1134.1 (by decide)
  have r2268 := tmod_rng (M.tdiv 2268) 3 d2268.1 (by decide)
  have r6804 := tmod_rng (M.tdiv 6804) 2 d6804.1 (by decide)
  have r13608 := tmod_rng (M.tdiv 13608) 2 d13608.1 (by decide)
  obtain ⟨fr, hfr⟩ : ∃ x, M.tmod 7 = x := ⟨_, rfl⟩
  obtain ⟨q7, hq7⟩ : ∃ x, M.tdiv 7 = x := ⟨_, rfl⟩
  rw [hq7] at d7 r7
  obtain ⟨ob, hob⟩ : ∃ x, q7.tmod 3 = x := ⟨_, rfl⟩
  rw [hob] at r7
  obtain ⟨q21, hq21⟩ : ∃ x, M.tdiv 21 = x := ⟨_, rfl⟩
  rw [hq21] at d21 r21
  obtain ⟨ac, hac⟩ : ∃ x, q21.tmod 3 = x := ⟨_, rfl⟩
  rw [hac] at r21
  obtain ⟨q63, hq63⟩ : ∃ x, M.tdiv 63 = x := ⟨_, rfl⟩
  rw [hq63] at d63 r63
  obtain ⟨ina, hina⟩ : ∃ x, q63.tmod 3 = x := ⟨_, rfl⟩
  rw [hina] at r63
  obtain ⟨q189, hq189⟩ : ∃ x, M.tdiv 189 = x := ⟨_, rfl⟩
  rw [hq189] at d189 r189
  obtain ⟨wr, hwr⟩ : ∃ x, q189.tmod 3 = x := ⟨_, rfl⟩
  rw [hwr] at r189
  obtain ⟨q567, hq567⟩ : ∃ x, M.tdiv 567 = x := ⟨_, rfl⟩
  rw [hq567] at d567 r567
  obtain ⟨orp, horp⟩ : ∃ x, q567.tmod 2 = x := ⟨_, rfl⟩
  rw [horp] at r567
  obtain ⟨q1134, hq1134⟩ : ∃ x, M.tdiv 1134 = x := ⟨_, rfl⟩
  rw [hq1134] at d1134 r1134
  obtain ⟨rm, hrm⟩ : ∃ x, q1134.tmod 2 = x := ⟨_, rfl⟩
  rw [hrm] at r1134
  obtain ⟨q2268, hq2268⟩ : ∃ x, M.tdiv 2268 = x := ⟨_, rfl⟩
  rw [hq2268] at d2268 r2268
  obtain ⟨sl, hsl⟩ : ∃ x, q2268.tmod 3 = x := ⟨_, rfl⟩
  rw [hsl] at r2268
  obtain ⟨q6804, hq6804⟩ : ∃ x, M.tdiv 6804 = x := ⟨_, rfl⟩
  rw [hq6804] at d6804 r6804
  obtain ⟨y1, hy1⟩ : ∃ x, q6804.tmod 2 = x := ⟨_, rfl⟩
  rw [hy1] at r6804
  obtain ⟨q13608, hq13608⟩ : ∃ x, M.tdiv 13608 = x := ⟨_, rfl⟩
  rw [hq13608] at d13608 r13608
  obtain ⟨y2, hy2⟩ : ∃ x, q13608.tmod 2 = x := ⟨_, rfl⟩
  rw [hy2] at r13608
  rw [hfr] at r0
  simp only [Int.reduceSub] at r0 r7 r21 r63 r189 r567 r1134 r2268 r6804 r13608
  by_cases hI : 0 < ina
  · skip
    go_wp2
    have hk5 : Blk ((w.alloc (.cells #[.int .i64 fr, .int .i64 3, .int .i64 6, .int .i64 9, .bool (y2 == 1), .int .i64 ob, .int .i64 ac, .int .i64 ina, .int .i64 2, .bool (y1 == 1), .int .i64 wr, .int .i64 2, .int .i64 orp, .int .i64 rm, .int .i64 sl] 44)).alloc (.cells #[.int .i64 fr, .int .i64 3, .int .i64 6, .int .i64 9, .bool (y2 == 1), .int .i64 ob, .int .i64 ac, .int .i64 ina, .int .i64 2, .bool (y1 == 1), .int .i64 wr, .int .i64 2, .int .i64 orp, .int .i64 rm, .int .i64 sl] 44)) w.heap.size 44 #[.int .i64 fr, .int .i64 3, .int .i64 6, .int .i64 9, .bool (y2 == 1), .int .i64 ob, .int .i64 ac, .int .i64 ina, .int .i64 2, .bool (y1 == 1), .int .i64 wr, .int .i64 2, .int .i64 orp, .int .i64 rm, .int .i64 sl] := (Blk.new_ rfl rfl).alloc_ _
    refine bodyPost_ret (v := .agg #[.int .i64 fr, .int .i64 3, .int .i64 6, .int .i64 9, .bool (y2 == 1), .int .i64 ob, .int .i64 ac, .int .i64 ina, .int .i64 2, .bool (y1 == 1), .int .i64 wr, .int .i64 2, .int .i64 orp, .int .i64 rm, .int .i64 sl]) (results_cell_row Tryz.results40 _ _ w.heap.size _ _ _ _ rfl hk5 Tryz.underlying44 rfl (by kernel_rfl)) rfl ?_
    exact HP fr ob ac ina wr orp rm sl (y1 == 1) (y2 == 1) _ _ r0 r7 r21 r63 r189 r567 r1134 r2268 (fun _ => hI) rfl (show Below w.heap.size w _ from (by repeat' (first | with_reducible exact Below.refl _ _ | with_reducible assumption | with_reducible apply Below.drew | with_reducible apply below_drewN | with_reducible apply Below.alloc | with_reducible apply Below.setCell | (with_reducible refine Below.trans ?_ (Below.mono (by assumption) ?_)) | (simp; done) | (simp; omega) | omega | with_reducible apply le_size_alloc | with_reducible apply le_size_drewN | with_reducible apply le_size_drew | with_reducible apply le_size_setCell | refine Nat.le_trans ?_ (Below.size (by assumption)))))
  · skip
    go_wp2
    have hk5 : Blk ((w.alloc (.cells #[.int .i64 fr, .int .i64 3, .int .i64 6, .int .i64 9, .bool (y2 == 1), .int .i64 ob, .int .i64 ac, .int .i64 ina, .int .i64 2, .bool false, .int .i64 wr, .int .i64 2, .int .i64 orp, .int .i64 rm, .int .i64 sl] 44)).alloc (.cells #[.int .i64 fr, .int .i64 3, .int .i64 6, .int .i64 9, .bool (y2 == 1), .int .i64 ob, .int .i64 ac, .int .i64 ina, .int .i64 2, .bool false, .int .i64 wr, .int .i64 2, .int .i64 orp, .int .i64 rm, .int .i64 sl] 44)) w.heap.size 44 #[.int .i64 fr, .int .i64 3, .int .i64 6, .int .i64 9, .bool (y2 == 1), .int .i64 ob, .int .i64 ac, .int .i64 ina, .int .i64 2, .bool false, .int .i64 wr, .int .i64 2, .int .i64 orp, .int .i64 rm, .int .i64 sl] := (Blk.new_ rfl rfl).alloc_ _
    refine bodyPost_ret (v := .agg #[.int .i64 fr, .int .i64 3, .int .i64 6, .int .i64 9, .bool (y2 == 1), .int .i64 ob, .int .i64 ac, .int .i64 ina, .int .i64 2, .bool false, .int .i64 wr, .int .i64 2, .int .i64 orp, .int .i64 rm, .int .i64 sl]) (results_cell_row Tryz.results40 _ _ w.heap.size _ _ _ _ rfl hk5 Tryz.underlying44 rfl (by kernel_rfl)) rfl ?_
    exact HP fr ob ac ina wr orp rm sl false (y2 == 1) _ _ r0 r7 r21 r63 r189 r567 r1134 r2268 (fun h => by cases h) rfl (show Below w.heap.size w _ from (by repeat' (first | with_reducible exact Below.refl _ _ | with_reducible assumption | with_reducible apply Below.drew | with_reducible apply below_drewN | with_reducible apply Below.alloc | with_reducible apply Below.setCell | (with_reducible refine Below.trans ?_ (Below.mono (by assumption) ?_)) | (simp; done) | (simp; omega) | omega | with_reducible apply le_size_alloc | with_reducible apply le_size_drewN | with_reducible apply le_size_drew | with_reducible apply le_size_setCell | refine Nat.le_trans ?_ (Below.size (by assumption)))))
end Go.Proofs.YtmbpjafiinfkkaaGreatDoor
