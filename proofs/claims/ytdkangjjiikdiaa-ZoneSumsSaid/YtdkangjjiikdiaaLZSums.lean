/- ZoneSums: the statement holds for every two numbers. -/
import Derived.Test.YtdkangjjiikdiaaZoneM
namespace Go.Proofs.Ytdkangjjiikdiaa
open Go.RowKit Go.Maps
open Go.ChangeShapes Go.WideShapes Go.ChangeAt Go.Joins

/-- The plain law: what is got, left and missing. q is the mark that a class has to leave. -/
theorem sums_law (q free many got more all few : Int) (h0 : 0 ≤ q) (h1 : 0 ≤ free) (h2 : 0 ≤ many) (hg : got = min many (max (free - q) 0)) (hm : more = if many = 0 then 0 else max (q + many - free) 0)
    (ha : all = min many (max (free + more - q) 0)) (hf : few = min many (max (free + more - 1 - q) 0)) :
    0 ≤ got ∧ got ≤ many ∧ got ≤ free ∧ 0 ≤ more ∧ more ≤ q + many ∧ (0 < got → q ≤ free - got) ∧ all = many ∧ (more = 0 ↔ got = many) ∧ (0 < more → few < many) := by
  split at hm <;> omega

set_option maxRecDepth 100000 in
set_option maxHeartbeats 4000000 in
theorem zoneSums_walk (n m : Int) (_hn : (Lit.int .i64 n).wf = true) (_hm : (Lit.int .i64 m).wf = true) (w : World) :
    Calls Try.prog 6 #[.int .i64 n, .int .i64 m] w fun e w' => e = .returned (.bool true) ∧ Below w.heap.size w w' := by
  obtain ⟨many, hk⟩ : ∃ k, k = m % 60 := ⟨_, rfl⟩
  have k0 : 0 ≤ many := by omega
  have k1 : many < 60 := by omega
  have HK := Lib.hid hk
  clear hk
  go_enter Try.func6, Try.ntmps6
  go_wp2_with fail
  refine (zoneKnown_walk _).mono ?_
  rintro e w1 ⟨rfl, hw1⟩
  go_wp2_with fail
  refine (made_any _ _).mono ?_
  rintro e w2 ⟨mn, lo, hi, c, free, rfl, g1, g2, g3, g4, g5, g6, g7, g8, hw2⟩
  obtain ⟨q, hq⟩ : ∃ q, q = flo mn hi c := ⟨_, rfl⟩
  obtain ⟨q0, q1⟩ := flo_bd (c := c) g1 g2 g3 (by omega)
  have q2 : flo mn hi c ≤ 59 := by unfold flo; (repeat' split) <;> omega
  rw [← hq] at q0 q1 q2
  obtain ⟨got, hg⟩ : ∃ got, got = min many (max (free - q) 0) := ⟨_, rfl⟩
  obtain ⟨more, hmo⟩ : ∃ more, more = if many = 0 then 0 else max (q + many - free) 0 := ⟨_, rfl⟩
  obtain ⟨all, ha⟩ : ∃ all, all = min many (max (free + more - q) 0) := ⟨_, rfl⟩
  obtain ⟨few, hf⟩ : ∃ few, few = min many (max (free + more - 1 - q) 0) := ⟨_, rfl⟩
  obtain ⟨a1, a2, a3, a4, a5, a6, a7, a8, a9⟩ := sums_law q free many got more all few q0 g7 k0 hg hmo ha hf
  have T1 : Hid (takeR mn lo hi c free many = .tuple #[.int .i64 got, .int .i64 (free - got), .int .i64 0]) := by
    show _ = _
    rw [takeR_ok g1 g2 g3 (by omega) g5 g6 g7 (by omega) k0 (by omega), ← hq, ← hg]
  have T2 : Hid (needsR mn lo hi c free many = .tuple #[.int .i64 more, .int .i64 0]) := by
    show _ = _
    rw [needsR_ok g1 g2 g3 (by omega) g5 g6 g7 (by omega) k0 (by omega), ← hq, ← hmo]
  have T3 : Hid (takeR mn lo hi c (free + more) many = .tuple #[.int .i64 many, .int .i64 (free + more - many), .int .i64 0]) := by
    show _ = _
    rw [takeR_ok g1 g2 g3 (by omega) g5 g6 (by omega) (by omega) k0 (by omega), ← hq, ← ha, a7]
  have T4 : Hid (0 < more → takeR mn lo hi c (free + more - 1) many = .tuple #[.int .i64 few, .int .i64 (free + more - 1 - few), .int .i64 0]) := by
    intro hp
    rw [takeR_ok g1 g2 g3 (by omega) g5 g6 (by omega) (by omega) k0 (by omega), ← hq, ← hf]
  have f0 : 0 ≤ few ∧ few ≤ many := by omega
  obtain ⟨f1, f2⟩ := f0
  have hq1 : c = 1 → q = mn := by rintro rfl; rw [hq]; rfl
  have hq3 : c = 3 → q = hi := by rintro rfl; rw [hq]; rfl
  have d1 : (got ≤ 0) ∨ (0 < got ∧ c = 1 ∧ mn ≤ free - got ∧ 0 ≤ free - got) ∨ (0 < got ∧ c = 2 ∧ 0 ≤ free - got) ∨ (0 < got ∧ c = 3 ∧ hi ≤ free - got ∧ 0 ≤ free - got) := by omega
  have d2 : (more ≤ 0 ∧ got = many) ∨ (0 < more ∧ got < many ∧ few < many) := by omega
  clear hg hmo ha hf hq a6 a7 a8 a9 hq1 hq3
  have P1 : Hid ((got ≤ 0) ∨ (0 < got ∧ c = 1 ∧ mn ≤ free - got ∧ 0 ≤ free - got) ∨ (0 < got ∧ c = 2 ∧ 0 ≤ free - got) ∨ (0 < got ∧ c = 3 ∧ hi ≤ free - got ∧ 0 ≤ free - got)) := d1
  have P2 : Hid ((more ≤ 0 ∧ got = many) ∨ (0 < more ∧ got < many ∧ few < many)) := d2
  clear d1 d2
  go_wp2_with fail
  refine (Mod_any _ _ _ (by omega) (by omega)).mono ?_
  rw [← HK.out]
  rintro e w' ⟨rfl, rfl⟩
  go_wp2_with fail
  refine (Take_any _ _ _ _ _ _ _).mono ?_
  rw [T1.out]
  rintro e w3 ⟨rfl, hw3⟩
  have cw30 : w3.cell? ⟨w2.heap.size, 0, none⟩ = some (.int .i64 mn) := cell_keep hw3 (by simp) (by simp)
  have cw31 : w3.cell? ⟨w2.heap.size, 1, none⟩ = some (.int .i64 lo) := cell_keep hw3 (by simp) (by simp)
  have cw32 : w3.cell? ⟨w2.heap.size, 2, none⟩ = some (.int .i64 hi) := cell_keep hw3 (by simp) (by simp)
  have sw3 : w2.heap.size < w3.heap.size := by have := hw3.size; simp at this; omega
  go_wp2_with fail
  refine (Needs_any _ _ _ _ _ _ _).mono ?_
  rw [T2.out]
  rintro e w4 ⟨rfl, hw4⟩
  have cw40 : w4.cell? ⟨w2.heap.size, 0, none⟩ = some (.int .i64 mn) := cell_keep hw4 cw30 sw3
  have cw41 : w4.cell? ⟨w2.heap.size, 1, none⟩ = some (.int .i64 lo) := cell_keep hw4 cw31 sw3
  have cw42 : w4.cell? ⟨w2.heap.size, 2, none⟩ = some (.int .i64 hi) := cell_keep hw4 cw32 sw3
  have sw4 : w2.heap.size < w4.heap.size := Nat.lt_of_lt_of_le sw3 hw4.size
  clear cw30 cw31 cw32
  rcases P1.out with d1 | ⟨d1, d2, d3, d4⟩ | ⟨d1, d2, d3⟩ | ⟨d1, d2, d3, d4⟩
  all_goals
    clear P1
    first | subst d2 | skip
    rcases P2.out with ⟨e1, e2⟩ | ⟨e1, e2, e3⟩
    · subst e2
      clear P2
      go_wp2_with fail
      refine (Take_any _ _ _ _ _ _ _).mono ?_
      rw [T3.out]
      rintro e w5 ⟨rfl, hw5⟩
      have e4 : more = 0 := by omega
      subst e4
      go_wp2
      go_ret
      exact ⟨by simp, (by repeat' (first | with_reducible exact Below.refl _ _ | with_reducible assumption | with_reducible apply Below.drew | with_reducible apply below_drewN | with_reducible apply Below.alloc | with_reducible apply Below.setCell | (with_reducible refine Below.trans ?_ (Below.mono (by assumption) ?_)) | (simp; done) | (simp; omega) | omega | with_reducible apply le_size_alloc | with_reducible apply le_size_drewN | refine Nat.le_trans ?_ (Below.size (by assumption))))⟩
    · clear P2
      have b1 : ((more : Int) == 0) = false := beq_eq_false_iff_ne.2 (by omega)
      have b2 : (got == many) = false := beq_eq_false_iff_ne.2 (by omega)
      go_wp2_with fail
      refine (Take_any _ _ _ _ _ _ _).mono ?_
      rw [T3.out]
      rintro e w5 ⟨rfl, hw5⟩
      have cw50 : w5.cell? ⟨w2.heap.size, 0, none⟩ = some (.int .i64 mn) := cell_keep hw5 cw40 sw4
      have cw51 : w5.cell? ⟨w2.heap.size, 1, none⟩ = some (.int .i64 lo) := cell_keep hw5 cw41 sw4
      have cw52 : w5.cell? ⟨w2.heap.size, 2, none⟩ = some (.int .i64 hi) := cell_keep hw5 cw42 sw4
      have sw5 : w2.heap.size < w5.heap.size := Nat.lt_of_lt_of_le sw4 hw5.size
      clear cw40 cw41 cw42
      go_wp2_with fail
      refine (Take_any _ _ _ _ _ _ _).mono ?_
      rw [T4.out e1]
      rintro e w6 ⟨rfl, hw6⟩
      go_wp2
      go_ret
      exact ⟨by simp, (by repeat' (first | with_reducible exact Below.refl _ _ | with_reducible assumption | with_reducible apply Below.drew | with_reducible apply below_drewN | with_reducible apply Below.alloc | with_reducible apply Below.setCell | (with_reducible refine Below.trans ?_ (Below.mono (by assumption) ?_)) | (simp; done) | (simp; omega) | omega | with_reducible apply le_size_alloc | with_reducible apply le_size_drewN | refine Nat.le_trans ?_ (Below.size (by assumption))))⟩

set_option maxRecDepth 100000 in
theorem zoneSums_lifted (os : Os) (started : os.Started) (H : Type) (enc : TypeId × Value → H) :
    ReturnsInHanded {} Try.checked os 6 .any (Rows.zoneSumsSpec.pre6 enc Try.prog Try.f6 Rows.zoneSumsRow.domain false) (Rows.zoneSumsSpec.post enc Try.prog Try.f6 false true false false) := by
  refine returnsInHanded_of_change (C := Try.checked) own started (by kernel_rfl) Try.func6
    (ChangeSpec.witness6 (enc := enc) (C := Try.checked) false ⟨#[], #[.int .i64 0, .int .i64 0], []⟩ 8 (by kernel_rfl) (by kernel_rfl) (by kernel_rfl) (by kernel_rfl)) ?_
  intro W base args ds gs before hval0 hW hcnd _
  have hval : ∀ (j : Nat) t v, Try.f6.params[j]? = some t → args[j]? = some v → Value.okWide Try.prog W .any base t v := hval0
  have hW' := hW
  obtain ⟨p, q, hA0, hV, rfl, hfz, hnd⟩ := hW
  have hA : DataW.TrodAll enc Try.prog W 0 (fun _ => true) true Try.f6.params.toList args.toList ds p := hA0
  rw [Try.params6] at hA hval
  obtain ⟨v0, vs0, d0, ds0, p0, q0, hargs, rfl, rfl, h0, r0⟩ := trodAll_cons hA
  obtain ⟨v1, vs1, d1, ds1, p1, q1, rfl, rfl, rfl, h1, r1⟩ := trodAll_cons r0
  obtain ⟨rfl, rfl, rfl⟩ := trodAll_nil r1
  obtain rfl : args = #[v0, v1] := by cases args; simp_all
  obtain ⟨rfl, rfl⟩ := trodVars_none hV
  obtain ⟨a0, rfl, rfl, rfl, w0⟩ := open_int Try.underlying3 (hval 0 3 v0 rfl rfl) h0
  obtain ⟨a1, rfl, rfl, rfl, w1⟩ := open_int Try.underlying3 (hval 1 3 v1 rfl rfl) h1
  clear hA0 hval0
  refine (zoneSums_walk a0 a1 w0 w1 W).mono fun e W' ⟨he, hb⟩ => ⟨_, he, ?_⟩
  exact law_post laidOut (s := Rows.zoneSumsSpec) (B := 4) rfl rfl Try.underlying4 (by decide +kernel) hW' rfl hb

theorem zoneSums_holds : Rows.ZoneSumsSaid :=
  OpenClaim.holds_of_wide 6 Try.f6 rfl rfl rfl rfl rfl rfl rfl ⟨rfl, rfl, rfl, rfl, rfl⟩ rfl rfl rfl rfl rfl (by kernel_rfl) Try.func6 (by kernel_rfl)
    (of_decide_eq_true (by kernel_rfl)) (by unfold Func.isWrapper; first | (rw [if_pos (by decide +kernel)]; kernel_rfl) | (rw [if_neg (by decide +kernel)]; exact ⟨rfl, rfl⟩))
    (fun os started H enc _ => zoneSums_lifted os started H enc)

end Go.Proofs.Ytdkangjjiikdiaa
