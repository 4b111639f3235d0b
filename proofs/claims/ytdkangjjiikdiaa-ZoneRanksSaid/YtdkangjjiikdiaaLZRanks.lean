/- ZoneRanks: the statement holds for every two numbers. -/
import Derived.Test.YtdkangjjiikdiaaZoneM
namespace Go.Proofs.Ytdkangjjiikdiaa
open Go.RowKit Go.Maps
open Go.ChangeShapes Go.WideShapes Go.ChangeAt Go.Joins

theorem level_mono (mn lo hi free more : Int) (h : 0 ≤ more) (h1 : mn < lo) (h2 : lo < hi) :
    (if hi ≤ free + more then 0 else if lo ≤ free + more then 1 else if mn < free + more then 2 else 3) ≤ (if hi ≤ free then (0 : Int) else if lo ≤ free then 1 else if mn < free then 2 else 3) := by
  (repeat' split) <;> omega

set_option maxRecDepth 100000 in
set_option maxHeartbeats 4000000 in
theorem zoneRanks_walk (n m : Int) (_hn : (Lit.int .i64 n).wf = true) (_hm : (Lit.int .i64 m).wf = true) (w : World) :
    Calls Try.prog 7 #[.int .i64 n, .int .i64 m] w fun e w' => e = .returned (.bool true) ∧ Below w.heap.size w w' := by
  obtain ⟨more, hk⟩ : ∃ k, k = m % 100 := ⟨_, rfl⟩
  have k0 : 0 ≤ more := by omega
  have k1 : more < 100 := by omega
  have HK := Lib.hid hk
  clear hk
  go_enter Try.func7, Try.ntmps7
  go_wp2_with fail
  refine (zoneKnown_walk _).mono ?_
  rintro e w1 ⟨rfl, hw1⟩
  go_wp2_with fail
  refine (made_any _ _).mono ?_
  rintro e w2 ⟨mn, lo, hi, c, free, rfl, g1, g2, g3, g4, g5, g6, g7, g8, hw2⟩
  have L1 : Hid (levelR mn lo hi free = .tuple #[.int .i64 (if hi ≤ free then (0 : Int) else if lo ≤ free then 1 else if mn < free then 2 else 3), .int .i64 0]) := by
    show _ = _
    unfold levelR; rw [zchd_zero g1 g2 g3 (by omega) (by omega) (by omega) g7 (by omega) (by omega) (by omega), if_neg (by simp)]
  have L2 : Hid (levelR mn lo hi (free + more) = .tuple #[.int .i64 (if hi ≤ free + more then (0 : Int) else if lo ≤ free + more then 1 else if mn < free + more then 2 else 3), .int .i64 0]) := by
    show _ = _
    unfold levelR; rw [zchd_zero g1 g2 g3 (by omega) (by omega) (by omega) (by omega) (by omega) (by omega) (by omega), if_neg (by simp)]
  have A1 : Hid (awakeR mn lo hi free true = .tuple #[.bool (decide (free < hi)), .int .i64 0]) := by
    show _ = _
    unfold awakeR; rw [zchd_zero g1 g2 g3 (by omega) (by omega) (by omega) g7 (by omega) (by omega) (by omega), if_neg (by simp)]
    congr 3; congr 1; rw [Bool.eq_iff_iff]; simp; omega
  have A2 : Hid (awakeR mn lo hi free false = .tuple #[.bool (decide (free < lo)), .int .i64 0]) := by
    show _ = _
    unfold awakeR; rw [zchd_zero g1 g2 g3 (by omega) (by omega) (by omega) g7 (by omega) (by omega) (by omega), if_neg (by simp)]
    simp
  have lm := level_mono mn lo hi free more k0 g2 g3
  generalize (if hi ≤ free + more then (0 : Int) else if lo ≤ free + more then 1 else if mn < free + more then 2 else 3) = lb at *
  generalize (if hi ≤ free then (0 : Int) else if lo ≤ free then 1 else if mn < free then 2 else 3) = la at *
  go_wp2_with fail
  refine (Mod_any _ _ _ (by omega) (by omega)).mono ?_
  rw [← HK.out]
  rintro e w' ⟨rfl, rfl⟩
  have M1 : Hid (∀ f : Int, 0 ≤ f → f ≤ 256 → mayR mn lo hi 1 f = .tuple #[.bool (decide (mn < f)), .int .i64 0]) := fun f h h' => mayR_ok g1 g2 g3 (by omega) (by omega) (by omega) h h'
  have M2 : Hid (∀ f : Int, 0 ≤ f → f ≤ 256 → mayR mn lo hi 2 f = .tuple #[.bool (decide (0 < f)), .int .i64 0]) := fun f h h' => mayR_ok g1 g2 g3 (by omega) (by omega) (by omega) h h'
  have M3 : Hid (∀ f : Int, 0 ≤ f → f ≤ 256 → mayR mn lo hi 3 f = .tuple #[.bool (decide (hi < f)), .int .i64 0]) := fun f h h' => mayR_ok g1 g2 g3 (by omega) (by omega) (by omega) h h'
  rcases (by omega : (free ≤ 0) ∨ (0 < free ∧ free ≤ mn) ∨ (mn < free ∧ free ≤ hi) ∨ (hi < free)) with d1 | ⟨d1, d2⟩ | ⟨d1, d2⟩ | d1
  all_goals
    have z1 : 0 ≤ free + more := by omega
    first | have dl2 : decide (0 < free + more) = true := decide_eq_true (by omega) | skip
    first | have dl1 : decide (mn < free + more) = true := decide_eq_true (by omega) | skip
    first | have dl3 : decide (hi < free + more) = true := decide_eq_true (by omega) | skip
    go_wp2_with fail
    refine wp_loop_rounds 3 ?_
    rw [rounds_succ]
    go_wp2_with fail
    refine (May_any _ _ _ _ _ _).mono ?_
    rw [M2.out _ (by omega) (by omega)]
    rintro e w3 ⟨rfl, hw3⟩
    have cw30 : w3.cell? ⟨w2.heap.size, 0, none⟩ = some (.int .i64 mn) := cell_keep hw3 (by simp) (by simp)
    have cw31 : w3.cell? ⟨w2.heap.size, 1, none⟩ = some (.int .i64 lo) := cell_keep hw3 (by simp) (by simp)
    have cw32 : w3.cell? ⟨w2.heap.size, 2, none⟩ = some (.int .i64 hi) := cell_keep hw3 (by simp) (by simp)
    have sw3 : w2.heap.size < w3.heap.size := by have := hw3.size; simp at this; omega
    go_wp2_with fail
    rw [rounds_succ]
    go_wp2_with fail
    refine (May_any _ _ _ _ _ _).mono ?_
    rw [M1.out _ (by omega) (by omega)]
    rintro e w4 ⟨rfl, hw4⟩
    have cw40 : w4.cell? ⟨w2.heap.size, 0, none⟩ = some (.int .i64 mn) := cell_keep hw4 cw30 sw3
    have cw41 : w4.cell? ⟨w2.heap.size, 1, none⟩ = some (.int .i64 lo) := cell_keep hw4 cw31 sw3
    have cw42 : w4.cell? ⟨w2.heap.size, 2, none⟩ = some (.int .i64 hi) := cell_keep hw4 cw32 sw3
    have sw4 : w2.heap.size < w4.heap.size := Nat.lt_of_lt_of_le sw3 hw4.size
    clear cw30 cw31 cw32
    go_wp2_with fail
    rw [rounds_succ]
    go_wp2_with fail
    refine (May_any _ _ _ _ _ _).mono ?_
    rw [M3.out _ (by omega) (by omega)]
    rintro e w5 ⟨rfl, hw5⟩
    have cw50 : w5.cell? ⟨w2.heap.size, 0, none⟩ = some (.int .i64 mn) := cell_keep hw5 cw40 sw4
    have cw51 : w5.cell? ⟨w2.heap.size, 1, none⟩ = some (.int .i64 lo) := cell_keep hw5 cw41 sw4
    have cw52 : w5.cell? ⟨w2.heap.size, 2, none⟩ = some (.int .i64 hi) := cell_keep hw5 cw42 sw4
    have sw5 : w2.heap.size < w5.heap.size := Nat.lt_of_lt_of_le sw4 hw5.size
    clear cw40 cw41 cw42
    go_wp2_with fail
    refine wp_loop_rounds 4 ?_
    rw [rounds_succ]
    go_wp2_with fail
    refine (May_any _ _ _ _ _ _).mono ?_
    rw [M1.out _ (by omega) (by omega)]
    rintro e w6 ⟨rfl, hw6⟩
    have cw60 : w6.cell? ⟨w2.heap.size, 0, none⟩ = some (.int .i64 mn) := cell_keep hw6 cw50 sw5
    have cw61 : w6.cell? ⟨w2.heap.size, 1, none⟩ = some (.int .i64 lo) := cell_keep hw6 cw51 sw5
    have cw62 : w6.cell? ⟨w2.heap.size, 2, none⟩ = some (.int .i64 hi) := cell_keep hw6 cw52 sw5
    have sw6 : w2.heap.size < w6.heap.size := Nat.lt_of_lt_of_le sw5 hw6.size
    clear cw50 cw51 cw52
    go_wp2_with fail
    refine (May_any _ _ _ _ _ _).mono ?_
    rw [M1.out _ (by omega) (by omega)]
    rintro e w7 ⟨rfl, hw7⟩
    have cw70 : w7.cell? ⟨w2.heap.size, 0, none⟩ = some (.int .i64 mn) := cell_keep hw7 cw60 sw6
    have cw71 : w7.cell? ⟨w2.heap.size, 1, none⟩ = some (.int .i64 lo) := cell_keep hw7 cw61 sw6
    have cw72 : w7.cell? ⟨w2.heap.size, 2, none⟩ = some (.int .i64 hi) := cell_keep hw7 cw62 sw6
    have sw7 : w2.heap.size < w7.heap.size := Nat.lt_of_lt_of_le sw6 hw7.size
    clear cw60 cw61 cw62
    go_wp2_with fail
    rw [rounds_succ]
    go_wp2_with fail
    refine (May_any _ _ _ _ _ _).mono ?_
    rw [M2.out _ (by omega) (by omega)]
    rintro e w8 ⟨rfl, hw8⟩
    have cw80 : w8.cell? ⟨w2.heap.size, 0, none⟩ = some (.int .i64 mn) := cell_keep hw8 cw70 sw7
    have cw81 : w8.cell? ⟨w2.heap.size, 1, none⟩ = some (.int .i64 lo) := cell_keep hw8 cw71 sw7
    have cw82 : w8.cell? ⟨w2.heap.size, 2, none⟩ = some (.int .i64 hi) := cell_keep hw8 cw72 sw7
    have sw8 : w2.heap.size < w8.heap.size := Nat.lt_of_lt_of_le sw7 hw8.size
    clear cw70 cw71 cw72
    go_wp2_with fail
    refine (May_any _ _ _ _ _ _).mono ?_
    rw [M2.out _ (by omega) (by omega)]
    rintro e w9 ⟨rfl, hw9⟩
    have cw90 : w9.cell? ⟨w2.heap.size, 0, none⟩ = some (.int .i64 mn) := cell_keep hw9 cw80 sw8
    have cw91 : w9.cell? ⟨w2.heap.size, 1, none⟩ = some (.int .i64 lo) := cell_keep hw9 cw81 sw8
    have cw92 : w9.cell? ⟨w2.heap.size, 2, none⟩ = some (.int .i64 hi) := cell_keep hw9 cw82 sw8
    have sw9 : w2.heap.size < w9.heap.size := Nat.lt_of_lt_of_le sw8 hw9.size
    clear cw80 cw81 cw82
    go_wp2_with fail
    rw [rounds_succ]
    go_wp2_with fail
    refine (May_any _ _ _ _ _ _).mono ?_
    rw [M3.out _ (by omega) (by omega)]
    rintro e w10 ⟨rfl, hw10⟩
    have cw100 : w10.cell? ⟨w2.heap.size, 0, none⟩ = some (.int .i64 mn) := cell_keep hw10 cw90 sw9
    have cw101 : w10.cell? ⟨w2.heap.size, 1, none⟩ = some (.int .i64 lo) := cell_keep hw10 cw91 sw9
    have cw102 : w10.cell? ⟨w2.heap.size, 2, none⟩ = some (.int .i64 hi) := cell_keep hw10 cw92 sw9
    have sw10 : w2.heap.size < w10.heap.size := Nat.lt_of_lt_of_le sw9 hw10.size
    clear cw90 cw91 cw92
    go_wp2_with fail
    refine (May_any _ _ _ _ _ _).mono ?_
    rw [M3.out _ (by omega) (by omega)]
    rintro e w11 ⟨rfl, hw11⟩
    have cw110 : w11.cell? ⟨w2.heap.size, 0, none⟩ = some (.int .i64 mn) := cell_keep hw11 cw100 sw10
    have cw111 : w11.cell? ⟨w2.heap.size, 1, none⟩ = some (.int .i64 lo) := cell_keep hw11 cw101 sw10
    have cw112 : w11.cell? ⟨w2.heap.size, 2, none⟩ = some (.int .i64 hi) := cell_keep hw11 cw102 sw10
    have sw11 : w2.heap.size < w11.heap.size := Nat.lt_of_lt_of_le sw10 hw11.size
    clear cw100 cw101 cw102
    go_wp2_with fail
    rw [rounds_succ]
    go_wp2_with fail
    refine (Level_any _ _ _ _ _).mono ?_
    rw [L1.out]
    rintro e w12 ⟨rfl, hw12⟩
    have cw120 : w12.cell? ⟨w2.heap.size, 0, none⟩ = some (.int .i64 mn) := cell_keep hw12 cw110 sw11
    have cw121 : w12.cell? ⟨w2.heap.size, 1, none⟩ = some (.int .i64 lo) := cell_keep hw12 cw111 sw11
    have cw122 : w12.cell? ⟨w2.heap.size, 2, none⟩ = some (.int .i64 hi) := cell_keep hw12 cw112 sw11
    have sw12 : w2.heap.size < w12.heap.size := Nat.lt_of_lt_of_le sw11 hw12.size
    clear cw110 cw111 cw112
    go_wp2_with fail
    refine (Level_any _ _ _ _ _).mono ?_
    rw [L2.out]
    rintro e w13 ⟨rfl, hw13⟩
    have cw130 : w13.cell? ⟨w2.heap.size, 0, none⟩ = some (.int .i64 mn) := cell_keep hw13 cw120 sw12
    have cw131 : w13.cell? ⟨w2.heap.size, 1, none⟩ = some (.int .i64 lo) := cell_keep hw13 cw121 sw12
    have cw132 : w13.cell? ⟨w2.heap.size, 2, none⟩ = some (.int .i64 hi) := cell_keep hw13 cw122 sw12
    have sw13 : w2.heap.size < w13.heap.size := Nat.lt_of_lt_of_le sw12 hw13.size
    clear cw120 cw121 cw122
    go_wp2_with fail
    refine (Awake_any _ _ _ _ _ _).mono ?_
    rw [A1.out]
    rintro e w14 ⟨rfl, hw14⟩
    have cw140 : w14.cell? ⟨w2.heap.size, 0, none⟩ = some (.int .i64 mn) := cell_keep hw14 cw130 sw13
    have cw141 : w14.cell? ⟨w2.heap.size, 1, none⟩ = some (.int .i64 lo) := cell_keep hw14 cw131 sw13
    have cw142 : w14.cell? ⟨w2.heap.size, 2, none⟩ = some (.int .i64 hi) := cell_keep hw14 cw132 sw13
    have sw14 : w2.heap.size < w14.heap.size := Nat.lt_of_lt_of_le sw13 hw14.size
    clear cw130 cw131 cw132
    go_wp2_with fail
    refine (Awake_any _ _ _ _ _ _).mono ?_
    rw [A2.out]
    rintro e w15 ⟨rfl, hw15⟩
    have cw150 : w15.cell? ⟨w2.heap.size, 0, none⟩ = some (.int .i64 mn) := cell_keep hw15 cw140 sw14
    have cw151 : w15.cell? ⟨w2.heap.size, 1, none⟩ = some (.int .i64 lo) := cell_keep hw15 cw141 sw14
    have cw152 : w15.cell? ⟨w2.heap.size, 2, none⟩ = some (.int .i64 hi) := cell_keep hw15 cw142 sw14
    have sw15 : w2.heap.size < w15.heap.size := Nat.lt_of_lt_of_le sw14 hw15.size
    clear cw140 cw141 cw142
    go_wp2
    go_ret
    exact ⟨by simp, (by repeat' (first | with_reducible exact Below.refl _ _ | with_reducible assumption | with_reducible apply Below.drew | with_reducible apply below_drewN | with_reducible apply Below.alloc | with_reducible apply Below.setCell | (with_reducible refine Below.trans ?_ (Below.mono (by assumption) ?_)) | (simp; done) | (simp; omega) | omega | with_reducible apply le_size_alloc | with_reducible apply le_size_drewN | refine Nat.le_trans ?_ (Below.size (by assumption))))⟩

set_option maxRecDepth 100000 in
theorem zoneRanks_lifted (os : Os) (started : os.Started) (H : Type) (enc : TypeId × Value → H) :
    ReturnsInHanded {} Try.checked os 7 .any (Rows.zoneRanksSpec.pre6 enc Try.prog Try.f7 Rows.zoneRanksRow.domain false) (Rows.zoneRanksSpec.post enc Try.prog Try.f7 false true false false) := by
  refine returnsInHanded_of_change (C := Try.checked) own started (by kernel_rfl) Try.func7
    (ChangeSpec.witness6 (enc := enc) (C := Try.checked) false ⟨#[], #[.int .i64 0, .int .i64 0], []⟩ 8 (by kernel_rfl) (by kernel_rfl) (by kernel_rfl) (by kernel_rfl)) ?_
  intro W base args ds gs before hval0 hW hcnd _
  have hval : ∀ (j : Nat) t v, Try.f7.params[j]? = some t → args[j]? = some v → Value.okWide Try.prog W .any base t v := hval0
  have hW' := hW
  obtain ⟨p, q, hA0, hV, rfl, hfz, hnd⟩ := hW
  have hA : DataW.TrodAll enc Try.prog W 0 (fun _ => true) true Try.f7.params.toList args.toList ds p := hA0
  rw [Try.params7] at hA hval
  obtain ⟨v0, vs0, d0, ds0, p0, q0, hargs, rfl, rfl, h0, r0⟩ := trodAll_cons hA
  obtain ⟨v1, vs1, d1, ds1, p1, q1, rfl, rfl, rfl, h1, r1⟩ := trodAll_cons r0
  obtain ⟨rfl, rfl, rfl⟩ := trodAll_nil r1
  obtain rfl : args = #[v0, v1] := by cases args; simp_all
  obtain ⟨rfl, rfl⟩ := trodVars_none hV
  obtain ⟨a0, rfl, rfl, rfl, w0⟩ := open_int Try.underlying3 (hval 0 3 v0 rfl rfl) h0
  obtain ⟨a1, rfl, rfl, rfl, w1⟩ := open_int Try.underlying3 (hval 1 3 v1 rfl rfl) h1
  clear hA0 hval0
  refine (zoneRanks_walk a0 a1 w0 w1 W).mono fun e W' ⟨he, hb⟩ => ⟨_, he, ?_⟩
  exact law_post laidOut (s := Rows.zoneRanksSpec) (B := 4) rfl rfl Try.underlying4 (by decide +kernel) hW' rfl hb

theorem zoneRanks_holds : Rows.ZoneRanksSaid :=
  OpenClaim.holds_of_wide 7 Try.f7 rfl rfl rfl rfl rfl rfl rfl ⟨rfl, rfl, rfl, rfl, rfl⟩ rfl rfl rfl rfl rfl (by kernel_rfl) Try.func7 (by kernel_rfl)
    (of_decide_eq_true (by kernel_rfl)) (by unfold Func.isWrapper; first | (rw [if_pos (by decide +kernel)]; kernel_rfl) | (rw [if_neg (by decide +kernel)]; exact ⟨rfl, rfl⟩))
    (fun os started H enc _ => zoneRanks_lifted os started H enc)

end Go.Proofs.Ytdkangjjiikdiaa
