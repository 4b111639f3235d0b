/- BalanceKnown: the chapter's examples have the results given there. Written by gen_bknown.py. -/
import Derived.Test.YtifimhfdapkpoaaBalT
import Derived.Test.YtifimhfdapkpoaaClose
namespace Go.Proofs.Ytifimhfdapkpoaa
open Go.RowKit Go.Maps
open Go.ChangeShapes Go.WideShapes Go.ChangeAt Go.Joins

theorem inMem_lit {w : World} {A1 A2 A3 : Option Addr} {xs ys : List Int} {rs : List Bool} (h1 : Sl w (.int .i64) A1 xs) (h2 : Sl w (.int .i64) A2 ys) (h3 : Sl w .bool A3 rs) (l1 : xs.length ≤ 1000) (l2 : ys.length ≤ 1000) (l3 : rs.length ≤ 1000)
    (b1 : ∀ x ∈ xs, 0 ≤ x ∧ x ≤ 1000) (b2 : ∀ x ∈ ys, 0 ≤ x ∧ x ≤ 1000) : InMem w A1 A2 A3 xs ys rs :=
  ⟨h1, h2, h3, by omega, by omega, by omega, fun x hx => wf_small (b1 x hx).1 (by have := (b1 x hx).2; omega), fun x hx => wf_small (b2 x hx).1 (by have := (b2 x hx).2; omega)⟩

set_option maxHeartbeats 400000 in
theorem numbers_yes (n r t : Int) (w : World) (h0 : 0 ≤ n) (h1 : n ≤ 256) (hr : rat n = r) (ht : tgt n = t) :
    Calls Try.prog 29 #[.int .i64 n, .int .i64 r, .int .i64 t] w fun e w' => e = .returned (.bool true) ∧ w = w' := by
  have HR := Lib.hid hr; have HT := Lib.hid ht
  clear hr ht
  go_enter Try.func29, Try.ntmps29
  go_wp2_with fail
  refine (Ratio_any _ _).mono ?_
  rw [if_pos ⟨h0, h1⟩, HR.out]
  rintro e w' ⟨rfl, rfl⟩
  go_wp2_with fail
  refine (Target_any _ _).mono ?_
  rw [if_pos ⟨h0, h1⟩, HT.out]
  rintro e w' ⟨rfl, rfl⟩
  go_wp2
  go_ret
  exact ⟨by first | rfl | simp, rfl⟩

set_option maxHeartbeats 400000 in
theorem part_yes (n a b k : Int) (w : World) (h : partR n a b = .tuple #[.int .i64 k, .int .i64 0]) :
    Calls Try.prog 30 #[.int .i64 n, .int .i64 a, .int .i64 b, .int .i64 k] w fun e w' => e = .returned (.bool true) ∧ w = w' := by
  have H := Lib.hid h
  clear h
  go_enter Try.func30, Try.ntmps30
  go_wp2_with fail
  refine (Part_any _ _ _ _).mono ?_
  rw [H.out]
  rintro e w' ⟨rfl, rfl⟩
  go_wp2
  go_ret
  exact ⟨by first | rfl | simp, rfl⟩

set_option maxRecDepth 100000 in
set_option maxHeartbeats 4000000 in
theorem balanceKnown_walk (w : World) : Calls Try.prog 8 #[] w fun e w' => e = .returned (.bool true) ∧ Below w.heap.size w w' := by
  go_enter Try.func8, Try.ntmps8
  go_wp2_with fail
  refine (Ratio_any _ _).mono ?_
  rw [if_neg (by omega)]
  rintro e w' ⟨rfl, rfl⟩
  go_wp2_with fail
  refine (Part_any _ _ _ _).mono ?_
  rw [show partR 1 2 1 = .tuple #[.int .i64 0, .int .i64 2] from by unfold partR; rw [if_neg (by omega)]]
  rintro e w' ⟨rfl, rfl⟩
  go_wp2_with fail
  refine (numbers_yes 0 1 0 _ (by omega) (by omega) (by decide) (by decide)).mono ?_
  rintro e w' ⟨rfl, rfl⟩
  go_wp2_with fail
  refine (numbers_yes 1 1 1 _ (by omega) (by omega) (by decide) (by decide)).mono ?_
  rintro e w' ⟨rfl, rfl⟩
  go_wp2_with fail
  refine (numbers_yes 15 1 8 _ (by omega) (by omega) (by decide) (by decide)).mono ?_
  rintro e w' ⟨rfl, rfl⟩
  go_wp2_with fail
  refine (numbers_yes 16 2 6 _ (by omega) (by omega) (by decide) (by decide)).mono ?_
  rintro e w' ⟨rfl, rfl⟩
  go_wp2_with fail
  refine (numbers_yes 36 3 9 _ (by omega) (by omega) (by decide) (by decide)).mono ?_
  rintro e w' ⟨rfl, rfl⟩
  go_wp2_with fail
  refine (numbers_yes 256 8 29 _ (by omega) (by omega) (by decide) (by decide)).mono ?_
  rintro e w' ⟨rfl, rfl⟩
  go_wp2_with fail
  refine (part_yes 7 1 2 4 _ (by unfold partR; simp)).mono ?_
  rintro e w' ⟨rfl, rfl⟩
  go_wp2_with fail
  refine (part_yes 7 0 3 0 _ (by unfold partR; simp)).mono ?_
  rintro e w' ⟨rfl, rfl⟩
  go_wp2_with fail
  refine (part_yes 10 1 3 3 _ (by unfold partR; simp)).mono ?_
  rintro e w' ⟨rfl, rfl⟩
  go_wp2_with fail
  refine (lists_none _ none 3 3 0 0 0 _).mono ?_
  rintro e w1 ⟨g1, rfl, s1, h1⟩
  go_wp2_with fail
  refine (lwhich_yes _ none _ 3 0 8 [3, 2, 1] ([] : List Int) [false, false, false, false, false, false, false, false] 1 _ (inMem_lit (Sl.of_lit (t := 3) (xs := [3, 2, 1]) (by repeat' (first | with_reducible assumption | (with_reducible refine Blk.new_ ?_ ?_ <;> first | (simp; done) | rfl) | with_reducible apply Blk.drew_ | with_reducible apply Blk.drewN_ | with_reducible apply Blk.alloc_ | with_reducible refine Blk.far_ ?_ ?_ _ | (with_reducible refine Blk.below_ ?_ (by assumption) ?_) | (simp; done) | (simp; omega) | omega | with_reducible apply le_size_alloc | with_reducible apply lt_size_alloc | with_reducible apply le_size_drewN | with_reducible apply le_size_drew | with_reducible apply le_size_setCell | refine Nat.lt_of_lt_of_le ?_ (Below.size (by assumption)) | refine Nat.le_trans ?_ (Below.size (by assumption))))) Sl.nil s1 (by simp) (by simp) (by simp) (by simp) (by simp)) (by decide) (by decide)).mono ?_
  rintro e y1 ⟨rfl, j1⟩
  go_wp2_with fail
  refine (lists_one _ _ 1 1 2 2 _ _ ?_).mono ?_
  · exact (by repeat' (first | with_reducible assumption | (with_reducible refine Blk.new_ ?_ ?_ <;> first | (simp; done) | rfl) | with_reducible apply Blk.drew_ | with_reducible apply Blk.drewN_ | with_reducible apply Blk.alloc_ | with_reducible refine Blk.far_ ?_ ?_ _ | (with_reducible refine Blk.below_ ?_ (by assumption) ?_) | (simp; done) | (simp; omega) | omega | with_reducible apply le_size_alloc | with_reducible apply lt_size_alloc | with_reducible apply le_size_drewN | with_reducible apply le_size_drew | with_reducible apply le_size_setCell | refine Nat.lt_of_lt_of_le ?_ (Below.size (by assumption)) | refine Nat.le_trans ?_ (Below.size (by assumption))))
  rintro e w2 ⟨g2, rfl, s2, h2⟩
  go_wp2_with fail
  refine (lwhich_yes _ _ _ 1 2 8 [3] [2, 1] [false, true, false, false, false, false, false, false] 2 _ (inMem_lit (Sl.of_lit (t := 3) (xs := [3]) (by repeat' (first | with_reducible assumption | (with_reducible refine Blk.new_ ?_ ?_ <;> first | (simp; done) | rfl) | with_reducible apply Blk.drew_ | with_reducible apply Blk.drewN_ | with_reducible apply Blk.alloc_ | with_reducible refine Blk.far_ ?_ ?_ _ | (with_reducible refine Blk.below_ ?_ (by assumption) ?_) | (simp; done) | (simp; omega) | omega | with_reducible apply le_size_alloc | with_reducible apply lt_size_alloc | with_reducible apply le_size_drewN | with_reducible apply le_size_drew | with_reducible apply le_size_setCell | refine Nat.lt_of_lt_of_le ?_ (Below.size (by assumption)) | refine Nat.le_trans ?_ (Below.size (by assumption))))) (Sl.of_lit (t := 3) (xs := [2, 1]) (by repeat' (first | with_reducible assumption | (with_reducible refine Blk.new_ ?_ ?_ <;> first | (simp; done) | rfl) | with_reducible apply Blk.drew_ | with_reducible apply Blk.drewN_ | with_reducible apply Blk.alloc_ | with_reducible refine Blk.far_ ?_ ?_ _ | (with_reducible refine Blk.below_ ?_ (by assumption) ?_) | (simp; done) | (simp; omega) | omega | with_reducible apply le_size_alloc | with_reducible apply lt_size_alloc | with_reducible apply le_size_drewN | with_reducible apply le_size_drew | with_reducible apply le_size_setCell | refine Nat.lt_of_lt_of_le ?_ (Below.size (by assumption)) | refine Nat.le_trans ?_ (Below.size (by assumption))))) s2 (by simp) (by simp) (by simp) (by simp) (by simp)) (by decide) (by decide)).mono ?_
  rintro e y2 ⟨rfl, j2⟩
  go_wp2_with fail
  refine (lists_one none _ 0 0 1 1 _ _ ?_).mono ?_
  · exact (by repeat' (first | with_reducible assumption | (with_reducible refine Blk.new_ ?_ ?_ <;> first | (simp; done) | rfl) | with_reducible apply Blk.drew_ | with_reducible apply Blk.drewN_ | with_reducible apply Blk.alloc_ | with_reducible refine Blk.far_ ?_ ?_ _ | (with_reducible refine Blk.below_ ?_ (by assumption) ?_) | (simp; done) | (simp; omega) | omega | with_reducible apply le_size_alloc | with_reducible apply lt_size_alloc | with_reducible apply le_size_drewN | with_reducible apply le_size_drew | with_reducible apply le_size_setCell | refine Nat.lt_of_lt_of_le ?_ (Below.size (by assumption)) | refine Nat.le_trans ?_ (Below.size (by assumption))))
  rintro e w3 ⟨g3, rfl, s3, h3⟩
  go_wp2_with fail
  refine (lwhich_yes none _ _ 0 1 8 ([] : List Int) [1] [false, true, false, false, false, false, false, false] 2 _ (inMem_lit Sl.nil (Sl.of_lit (t := 3) (xs := [1]) (by repeat' (first | with_reducible assumption | (with_reducible refine Blk.new_ ?_ ?_ <;> first | (simp; done) | rfl) | with_reducible apply Blk.drew_ | with_reducible apply Blk.drewN_ | with_reducible apply Blk.alloc_ | with_reducible refine Blk.far_ ?_ ?_ _ | (with_reducible refine Blk.below_ ?_ (by assumption) ?_) | (simp; done) | (simp; omega) | omega | with_reducible apply le_size_alloc | with_reducible apply lt_size_alloc | with_reducible apply le_size_drewN | with_reducible apply le_size_drew | with_reducible apply le_size_setCell | refine Nat.lt_of_lt_of_le ?_ (Below.size (by assumption)) | refine Nat.le_trans ?_ (Below.size (by assumption))))) s3 (by simp) (by simp) (by simp) (by simp) (by simp)) (by decide) (by decide)).mono ?_
  rintro e y3 ⟨rfl, j3⟩
  go_wp2_with fail
  refine (lists_none none _ 0 0 1 1 0 _).mono ?_
  rintro e w4 ⟨g4, rfl, s4, h4⟩
  go_wp2_with fail
  refine (lwhich_yes none _ _ 0 1 8 ([] : List Int) [1] [false, false, false, false, false, false, false, false] 3 _ (inMem_lit Sl.nil (Sl.of_lit (t := 3) (xs := [1]) (by repeat' (first | with_reducible assumption | (with_reducible refine Blk.new_ ?_ ?_ <;> first | (simp; done) | rfl) | with_reducible apply Blk.drew_ | with_reducible apply Blk.drewN_ | with_reducible apply Blk.alloc_ | with_reducible refine Blk.far_ ?_ ?_ _ | (with_reducible refine Blk.below_ ?_ (by assumption) ?_) | (simp; done) | (simp; omega) | omega | with_reducible apply le_size_alloc | with_reducible apply lt_size_alloc | with_reducible apply le_size_drewN | with_reducible apply le_size_drew | with_reducible apply le_size_setCell | refine Nat.lt_of_lt_of_le ?_ (Below.size (by assumption)) | refine Nat.le_trans ?_ (Below.size (by assumption))))) s4 (by simp) (by simp) (by simp) (by simp) (by simp)) (by decide) (by decide)).mono ?_
  rintro e y4 ⟨rfl, j4⟩
  go_wp2_with fail
  refine (lists_none none none 0 0 0 0 0 _).mono ?_
  rintro e w5 ⟨g5, rfl, s5, h5⟩
  go_wp2_with fail
  refine (lwhich_yes none none _ 0 0 8 ([] : List Int) ([] : List Int) [false, false, false, false, false, false, false, false] 0 _ (inMem_lit Sl.nil Sl.nil s5 (by simp) (by simp) (by simp) (by simp) (by simp)) (by decide) (by decide)).mono ?_
  rintro e y5 ⟨rfl, j5⟩
  go_wp2_with fail
  refine (lists_none _ none 3 3 0 0 0 _).mono ?_
  rintro e w6 ⟨g6, rfl, s6, h6⟩
  have hl : Hid (lacksV [3, 2, 1] [] [false, false, false, false, false, false, false, false] = 2) := by show _ = _; decide
  have hc : Hid (lruChk [3, 2, 1] [] [false, false, false, false, false, false, false, false] = 0) := by show _ = _; decide
  go_wp2_with fail
  refine (Lacks_S _ none _ 3 0 8 [3, 2, 1] [] [false, false, false, false, false, false, false, false] _ (inMem_lit (Sl.of_lit (t := 3) (xs := [3, 2, 1]) (by repeat' (first | with_reducible assumption | (with_reducible refine Blk.new_ ?_ ?_ <;> first | (simp; done) | rfl) | with_reducible apply Blk.drew_ | with_reducible apply Blk.drewN_ | with_reducible apply Blk.alloc_ | with_reducible refine Blk.far_ ?_ ?_ _ | (with_reducible refine Blk.below_ ?_ (by assumption) ?_) | (simp; done) | (simp; omega) | omega | with_reducible apply le_size_alloc | with_reducible apply lt_size_alloc | with_reducible apply le_size_drewN | with_reducible apply le_size_drew | with_reducible apply le_size_setCell | refine Nat.lt_of_lt_of_le ?_ (Below.size (by assumption)) | refine Nat.le_trans ?_ (Below.size (by assumption))))) Sl.nil s6 (by simp) (by simp) (by simp) (by simp) (by simp))).mono ?_
  rw [hl.out, hc.out]
  rintro e y6 ⟨rfl, j6⟩
  go_wp2_with fail
  refine (lists_none _ none 3 3 0 0 0 _).mono ?_
  rintro e w7 ⟨g7, rfl, s7, h7⟩
  have hs : Hid (stepsV [3, 2, 1] [] [false, false, false, false, false, false, false, false] = 2) := by show _ = _; decide
  go_wp2_with fail
  refine (Steps_S _ none _ 3 0 8 [3, 2, 1] [] [false, false, false, false, false, false, false, false] _ (inMem_lit (Sl.of_lit (t := 3) (xs := [3, 2, 1]) (by repeat' (first | with_reducible assumption | (with_reducible refine Blk.new_ ?_ ?_ <;> first | (simp; done) | rfl) | with_reducible apply Blk.drew_ | with_reducible apply Blk.drewN_ | with_reducible apply Blk.alloc_ | with_reducible refine Blk.far_ ?_ ?_ _ | (with_reducible refine Blk.below_ ?_ (by assumption) ?_) | (simp; done) | (simp; omega) | omega | with_reducible apply le_size_alloc | with_reducible apply lt_size_alloc | with_reducible apply le_size_drewN | with_reducible apply le_size_drew | with_reducible apply le_size_setCell | refine Nat.lt_of_lt_of_le ?_ (Below.size (by assumption)) | refine Nat.le_trans ?_ (Below.size (by assumption))))) Sl.nil s7 (by simp) (by simp) (by simp) (by simp) (by simp))).mono ?_
  rw [hs.out, hc.out]
  rintro e y7 ⟨rfl, j7⟩
  go_wp2_with fail
  refine (awake_any _).mono ?_
  rintro e yz ⟨rfl, jz⟩
  go_wp2
  go_ret
  exact ⟨by first | rfl | simp, (by repeat' (first | with_reducible exact Below.refl _ _ | with_reducible assumption | with_reducible apply Below.drew | with_reducible apply below_drewN | with_reducible apply Below.alloc | with_reducible apply Below.setCell | (with_reducible refine Below.trans ?_ (Below.mono (by assumption) ?_)) | (simp; done) | (simp; omega) | omega | with_reducible apply le_size_alloc | with_reducible apply le_size_drewN | with_reducible apply le_size_drew | with_reducible apply le_size_setCell | refine Nat.le_trans ?_ (Below.size (by assumption))))⟩

set_option maxRecDepth 100000 in
theorem balanceKnown_lifted (os : Os) (started : os.Started) (H : Type) (enc : TypeId × Value → H) :
    ReturnsInHanded {} Try.checked os 8 .any (Rows.balanceKnownSpec.pre6 enc Try.prog Try.f8 Rows.balanceKnownRow.domain false) (Rows.balanceKnownSpec.post enc Try.prog Try.f8 false true false false) := by
  refine returnsInHanded_of_change (C := Try.checked) own started (by kernel_rfl) Try.func8
    (ChangeSpec.witness6 (enc := enc) (C := Try.checked) false ⟨#[], #[], []⟩ 8 (by kernel_rfl) (by kernel_rfl) (by kernel_rfl) (by kernel_rfl)) ?_
  intro W base args ds gs before hval0 hW hcnd _
  have hval : ∀ (j : Nat) t v, Try.f8.params[j]? = some t → args[j]? = some v → Value.okWide Try.prog W .any base t v := hval0
  have hW' := hW
  obtain ⟨p, q, hA0, hV, rfl, hfz, hnd⟩ := hW
  have hA : DataW.TrodAll enc Try.prog W 0 (fun _ => true) true Try.f8.params.toList args.toList ds p := hA0
  rw [Try.params8] at hA hval
  obtain ⟨rfl, rfl, rfl⟩ := trodAll_none hA
  obtain ⟨rfl, rfl⟩ := trodVars_none hV
  clear hA0 hval0
  refine (balanceKnown_walk   W).mono fun e W' ⟨he, hb⟩ => ⟨_, he, ?_⟩
  exact law_post laidOut (s := Rows.balanceKnownSpec) (B := 4) rfl rfl Try.underlying4 (by decide +kernel) hW' rfl hb

theorem balanceKnown_holds : Rows.BalanceKnownSaid :=
  OpenClaim.holds_of_wide 8 Try.f8 rfl rfl rfl rfl rfl rfl rfl ⟨rfl, rfl, rfl, rfl, rfl⟩ rfl rfl rfl rfl rfl (by kernel_rfl) Try.func8 (by kernel_rfl)
    (of_decide_eq_true (by kernel_rfl)) (by unfold Func.isWrapper; first | (rw [if_pos (by decide +kernel)]; kernel_rfl) | (rw [if_neg (by decide +kernel)]; exact ⟨rfl, rfl⟩))
    (fun os started H enc _ => balanceKnown_lifted os started H enc)

end Go.Proofs.Ytifimhfdapkpoaa
