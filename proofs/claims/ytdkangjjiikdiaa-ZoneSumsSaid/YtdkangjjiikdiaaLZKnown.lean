/- ZoneKnown: the chapter's examples of zone. -/
import Derived.Test.YtdkangjjiikdiaaZoneK
import Derived.Test.YtdkangjjiikdiaaClose
namespace Go.Proofs.Ytdkangjjiikdiaa
open Go.RowKit Go.Maps
open Go.ChangeShapes Go.WideShapes Go.ChangeAt Go.Joins

set_option maxRecDepth 100000 in
set_option maxHeartbeats 4000000 in
theorem zoneKnown_walk (w : World) : Calls Try.prog 5 #[] w fun e w' => e = .returned (.bool true) ∧ Below w.heap.size w w' := by
  go_enter Try.func5, Try.ntmps5
  go_wp2_with fail
  refine (marks_any _).mono ?_
  rintro e w1 ⟨rfl, h1⟩
  have b1 : Below w.heap.size w w1 := h1
  go_wp2_with fail
  refine (May_any _ _ _ _ _ _).mono ?_
  rw [show mayR 3 6 10 4 5 = .tuple #[.bool false, .int .i64 16] from rfl]
  rintro e w2 ⟨rfl, h2⟩
  have b2 : Below w.heap.size w w2 := (by repeat' (first | with_reducible exact Below.refl _ _ | with_reducible assumption | with_reducible apply Below.drew | with_reducible apply below_drewN | with_reducible apply Below.alloc | with_reducible apply Below.setCell | (with_reducible refine Below.trans ?_ (Below.mono (by assumption) ?_)) | (simp; done) | (simp; omega) | omega | with_reducible apply le_size_alloc | with_reducible apply le_size_drewN | refine Nat.le_trans ?_ (Below.size (by assumption))))
  clear h2 b1
  go_wp2_with fail
  refine (marks_any _).mono ?_
  rintro e w3 ⟨rfl, h3⟩
  have b3 : Below w.heap.size w w3 := (by repeat' (first | with_reducible exact Below.refl _ _ | with_reducible assumption | with_reducible apply Below.drew | with_reducible apply below_drewN | with_reducible apply Below.alloc | with_reducible apply Below.setCell | (with_reducible refine Below.trans ?_ (Below.mono (by assumption) ?_)) | (simp; done) | (simp; omega) | omega | with_reducible apply le_size_alloc | with_reducible apply le_size_drewN | refine Nat.le_trans ?_ (Below.size (by assumption))))
  clear h3 b2
  go_wp2_with fail
  refine (May_any _ _ _ _ _ _).mono ?_
  rw [show mayR 3 6 10 1 257 = .tuple #[.bool false, .int .i64 2] from rfl]
  rintro e w4 ⟨rfl, h4⟩
  have b4 : Below w.heap.size w w4 := (by repeat' (first | with_reducible exact Below.refl _ _ | with_reducible assumption | with_reducible apply Below.drew | with_reducible apply below_drewN | with_reducible apply Below.alloc | with_reducible apply Below.setCell | (with_reducible refine Below.trans ?_ (Below.mono (by assumption) ?_)) | (simp; done) | (simp; omega) | omega | with_reducible apply le_size_alloc | with_reducible apply le_size_drewN | refine Nat.le_trans ?_ (Below.size (by assumption))))
  clear h4 b3
  go_wp2_with fail
  refine (marks_any _).mono ?_
  rintro e w5 ⟨rfl, h5⟩
  have b5 : Below w.heap.size w w5 := (by repeat' (first | with_reducible exact Below.refl _ _ | with_reducible assumption | with_reducible apply Below.drew | with_reducible apply below_drewN | with_reducible apply Below.alloc | with_reducible apply Below.setCell | (with_reducible refine Below.trans ?_ (Below.mono (by assumption) ?_)) | (simp; done) | (simp; omega) | omega | with_reducible apply le_size_alloc | with_reducible apply le_size_drewN | refine Nat.le_trans ?_ (Below.size (by assumption))))
  clear h5 b4
  go_wp2_with fail
  refine (May_any _ _ _ _ _ _).mono ?_
  rw [show mayR 3 6 10 2 0 = .tuple #[.bool false, .int .i64 0] from rfl]
  rintro e w6 ⟨rfl, h6⟩
  have b6 : Below w.heap.size w w6 := (by repeat' (first | with_reducible exact Below.refl _ _ | with_reducible assumption | with_reducible apply Below.drew | with_reducible apply below_drewN | with_reducible apply Below.alloc | with_reducible apply Below.setCell | (with_reducible refine Below.trans ?_ (Below.mono (by assumption) ?_)) | (simp; done) | (simp; omega) | omega | with_reducible apply le_size_alloc | with_reducible apply le_size_drewN | refine Nat.le_trans ?_ (Below.size (by assumption))))
  clear h6 b5
  go_wp2_with fail
  refine (marks_any _).mono ?_
  rintro e w7 ⟨rfl, h7⟩
  have b7 : Below w.heap.size w w7 := (by repeat' (first | with_reducible exact Below.refl _ _ | with_reducible assumption | with_reducible apply Below.drew | with_reducible apply below_drewN | with_reducible apply Below.alloc | with_reducible apply Below.setCell | (with_reducible refine Below.trans ?_ (Below.mono (by assumption) ?_)) | (simp; done) | (simp; omega) | omega | with_reducible apply le_size_alloc | with_reducible apply le_size_drewN | refine Nat.le_trans ?_ (Below.size (by assumption))))
  clear h7 b6
  go_wp2_with fail
  refine (May_any _ _ _ _ _ _).mono ?_
  rw [show mayR 3 6 10 3 10 = .tuple #[.bool false, .int .i64 0] from rfl]
  rintro e w8 ⟨rfl, h8⟩
  have b8 : Below w.heap.size w w8 := (by repeat' (first | with_reducible exact Below.refl _ _ | with_reducible assumption | with_reducible apply Below.drew | with_reducible apply below_drewN | with_reducible apply Below.alloc | with_reducible apply Below.setCell | (with_reducible refine Below.trans ?_ (Below.mono (by assumption) ?_)) | (simp; done) | (simp; omega) | omega | with_reducible apply le_size_alloc | with_reducible apply le_size_drewN | refine Nat.le_trans ?_ (Below.size (by assumption))))
  clear h8 b7
  go_wp2_with fail
  refine (lmay_any _ _ true 0 _ (by rfl)).mono ?_
  rintro e w9 ⟨rfl, h9⟩
  have b9 : Below w.heap.size w w9 := (by repeat' (first | with_reducible exact Below.refl _ _ | with_reducible assumption | with_reducible apply Below.drew | with_reducible apply below_drewN | with_reducible apply Below.alloc | with_reducible apply Below.setCell | (with_reducible refine Below.trans ?_ (Below.mono (by assumption) ?_)) | (simp; done) | (simp; omega) | omega | with_reducible apply le_size_alloc | with_reducible apply le_size_drewN | refine Nat.le_trans ?_ (Below.size (by assumption))))
  clear h9 b8
  go_wp2_with fail
  refine (lmay_any _ _ true 0 _ (by rfl)).mono ?_
  rintro e w10 ⟨rfl, h10⟩
  have b10 : Below w.heap.size w w10 := (by repeat' (first | with_reducible exact Below.refl _ _ | with_reducible assumption | with_reducible apply Below.drew | with_reducible apply below_drewN | with_reducible apply Below.alloc | with_reducible apply Below.setCell | (with_reducible refine Below.trans ?_ (Below.mono (by assumption) ?_)) | (simp; done) | (simp; omega) | omega | with_reducible apply le_size_alloc | with_reducible apply le_size_drewN | refine Nat.le_trans ?_ (Below.size (by assumption))))
  clear h10 b9
  go_wp2_with fail
  refine (takes_yes _ _ _ _ _ _ (by rfl)).mono ?_
  rintro e w11 ⟨rfl, h11⟩
  have b11 : Below w.heap.size w w11 := (by repeat' (first | with_reducible exact Below.refl _ _ | with_reducible assumption | with_reducible apply Below.drew | with_reducible apply below_drewN | with_reducible apply Below.alloc | with_reducible apply Below.setCell | (with_reducible refine Below.trans ?_ (Below.mono (by assumption) ?_)) | (simp; done) | (simp; omega) | omega | with_reducible apply le_size_alloc | with_reducible apply le_size_drewN | refine Nat.le_trans ?_ (Below.size (by assumption))))
  clear h11 b10
  go_wp2_with fail
  refine (takes_yes _ _ _ _ _ _ (by rfl)).mono ?_
  rintro e w12 ⟨rfl, h12⟩
  have b12 : Below w.heap.size w w12 := (by repeat' (first | with_reducible exact Below.refl _ _ | with_reducible assumption | with_reducible apply Below.drew | with_reducible apply below_drewN | with_reducible apply Below.alloc | with_reducible apply Below.setCell | (with_reducible refine Below.trans ?_ (Below.mono (by assumption) ?_)) | (simp; done) | (simp; omega) | omega | with_reducible apply le_size_alloc | with_reducible apply le_size_drewN | refine Nat.le_trans ?_ (Below.size (by assumption))))
  clear h12 b11
  go_wp2_with fail
  refine (needs_yes _ _ _ _ _ (by rfl)).mono ?_
  rintro e w13 ⟨rfl, h13⟩
  have b13 : Below w.heap.size w w13 := (by repeat' (first | with_reducible exact Below.refl _ _ | with_reducible assumption | with_reducible apply Below.drew | with_reducible apply below_drewN | with_reducible apply Below.alloc | with_reducible apply Below.setCell | (with_reducible refine Below.trans ?_ (Below.mono (by assumption) ?_)) | (simp; done) | (simp; omega) | omega | with_reducible apply le_size_alloc | with_reducible apply le_size_drewN | refine Nat.le_trans ?_ (Below.size (by assumption))))
  clear h13 b12
  go_wp2_with fail
  refine (needs_yes _ _ _ _ _ (by rfl)).mono ?_
  rintro e w14 ⟨rfl, h14⟩
  have b14 : Below w.heap.size w w14 := (by repeat' (first | with_reducible exact Below.refl _ _ | with_reducible assumption | with_reducible apply Below.drew | with_reducible apply below_drewN | with_reducible apply Below.alloc | with_reducible apply Below.setCell | (with_reducible refine Below.trans ?_ (Below.mono (by assumption) ?_)) | (simp; done) | (simp; omega) | omega | with_reducible apply le_size_alloc | with_reducible apply le_size_drewN | refine Nat.le_trans ?_ (Below.size (by assumption))))
  clear h14 b13
  go_wp2_with fail
  refine (needs_yes _ _ _ _ _ (by rfl)).mono ?_
  rintro e w15 ⟨rfl, h15⟩
  have b15 : Below w.heap.size w w15 := (by repeat' (first | with_reducible exact Below.refl _ _ | with_reducible assumption | with_reducible apply Below.drew | with_reducible apply below_drewN | with_reducible apply Below.alloc | with_reducible apply Below.setCell | (with_reducible refine Below.trans ?_ (Below.mono (by assumption) ?_)) | (simp; done) | (simp; omega) | omega | with_reducible apply le_size_alloc | with_reducible apply le_size_drewN | refine Nat.le_trans ?_ (Below.size (by assumption))))
  clear h15 b14
  go_wp2_with fail
  refine (needs_yes _ _ _ _ _ (by rfl)).mono ?_
  rintro e w16 ⟨rfl, h16⟩
  have b16 : Below w.heap.size w w16 := (by repeat' (first | with_reducible exact Below.refl _ _ | with_reducible assumption | with_reducible apply Below.drew | with_reducible apply below_drewN | with_reducible apply Below.alloc | with_reducible apply Below.setCell | (with_reducible refine Below.trans ?_ (Below.mono (by assumption) ?_)) | (simp; done) | (simp; omega) | omega | with_reducible apply le_size_alloc | with_reducible apply le_size_drewN | refine Nat.le_trans ?_ (Below.size (by assumption))))
  clear h16 b15
  go_wp2_with fail
  refine (level_yes _ _ _ (by rfl)).mono ?_
  rintro e w17 ⟨rfl, h17⟩
  have b17 : Below w.heap.size w w17 := (by repeat' (first | with_reducible exact Below.refl _ _ | with_reducible assumption | with_reducible apply Below.drew | with_reducible apply below_drewN | with_reducible apply Below.alloc | with_reducible apply Below.setCell | (with_reducible refine Below.trans ?_ (Below.mono (by assumption) ?_)) | (simp; done) | (simp; omega) | omega | with_reducible apply le_size_alloc | with_reducible apply le_size_drewN | refine Nat.le_trans ?_ (Below.size (by assumption))))
  clear h17 b16
  go_wp2_with fail
  refine (level_yes _ _ _ (by rfl)).mono ?_
  rintro e w18 ⟨rfl, h18⟩
  have b18 : Below w.heap.size w w18 := (by repeat' (first | with_reducible exact Below.refl _ _ | with_reducible assumption | with_reducible apply Below.drew | with_reducible apply below_drewN | with_reducible apply Below.alloc | with_reducible apply Below.setCell | (with_reducible refine Below.trans ?_ (Below.mono (by assumption) ?_)) | (simp; done) | (simp; omega) | omega | with_reducible apply le_size_alloc | with_reducible apply le_size_drewN | refine Nat.le_trans ?_ (Below.size (by assumption))))
  clear h18 b17
  go_wp2_with fail
  refine (level_yes _ _ _ (by rfl)).mono ?_
  rintro e w19 ⟨rfl, h19⟩
  have b19 : Below w.heap.size w w19 := (by repeat' (first | with_reducible exact Below.refl _ _ | with_reducible assumption | with_reducible apply Below.drew | with_reducible apply below_drewN | with_reducible apply Below.alloc | with_reducible apply Below.setCell | (with_reducible refine Below.trans ?_ (Below.mono (by assumption) ?_)) | (simp; done) | (simp; omega) | omega | with_reducible apply le_size_alloc | with_reducible apply le_size_drewN | refine Nat.le_trans ?_ (Below.size (by assumption))))
  clear h19 b18
  go_wp2_with fail
  refine (level_yes _ _ _ (by rfl)).mono ?_
  rintro e w20 ⟨rfl, h20⟩
  have b20 : Below w.heap.size w w20 := (by repeat' (first | with_reducible exact Below.refl _ _ | with_reducible assumption | with_reducible apply Below.drew | with_reducible apply below_drewN | with_reducible apply Below.alloc | with_reducible apply Below.setCell | (with_reducible refine Below.trans ?_ (Below.mono (by assumption) ?_)) | (simp; done) | (simp; omega) | omega | with_reducible apply le_size_alloc | with_reducible apply le_size_drewN | refine Nat.le_trans ?_ (Below.size (by assumption))))
  clear h20 b19
  go_wp2_with fail
  refine (level_yes _ _ _ (by rfl)).mono ?_
  rintro e w21 ⟨rfl, h21⟩
  have b21 : Below w.heap.size w w21 := (by repeat' (first | with_reducible exact Below.refl _ _ | with_reducible assumption | with_reducible apply Below.drew | with_reducible apply below_drewN | with_reducible apply Below.alloc | with_reducible apply Below.setCell | (with_reducible refine Below.trans ?_ (Below.mono (by assumption) ?_)) | (simp; done) | (simp; omega) | omega | with_reducible apply le_size_alloc | with_reducible apply le_size_drewN | refine Nat.le_trans ?_ (Below.size (by assumption))))
  clear h21 b20
  go_wp2_with fail
  refine (level_yes _ _ _ (by rfl)).mono ?_
  rintro e w22 ⟨rfl, h22⟩
  have b22 : Below w.heap.size w w22 := (by repeat' (first | with_reducible exact Below.refl _ _ | with_reducible assumption | with_reducible apply Below.drew | with_reducible apply below_drewN | with_reducible apply Below.alloc | with_reducible apply Below.setCell | (with_reducible refine Below.trans ?_ (Below.mono (by assumption) ?_)) | (simp; done) | (simp; omega) | omega | with_reducible apply le_size_alloc | with_reducible apply le_size_drewN | refine Nat.le_trans ?_ (Below.size (by assumption))))
  clear h22 b21
  go_wp2_with fail
  refine (wakes_yes _ _ _ _ (by rfl)).mono ?_
  rintro e w23 ⟨rfl, h23⟩
  have b23 : Below w.heap.size w w23 := (by repeat' (first | with_reducible exact Below.refl _ _ | with_reducible assumption | with_reducible apply Below.drew | with_reducible apply below_drewN | with_reducible apply Below.alloc | with_reducible apply Below.setCell | (with_reducible refine Below.trans ?_ (Below.mono (by assumption) ?_)) | (simp; done) | (simp; omega) | omega | with_reducible apply le_size_alloc | with_reducible apply le_size_drewN | refine Nat.le_trans ?_ (Below.size (by assumption))))
  clear h23 b22
  go_wp2_with fail
  refine (wakes_yes _ _ _ _ (by rfl)).mono ?_
  rintro e w24 ⟨rfl, h24⟩
  have b24 : Below w.heap.size w w24 := (by repeat' (first | with_reducible exact Below.refl _ _ | with_reducible assumption | with_reducible apply Below.drew | with_reducible apply below_drewN | with_reducible apply Below.alloc | with_reducible apply Below.setCell | (with_reducible refine Below.trans ?_ (Below.mono (by assumption) ?_)) | (simp; done) | (simp; omega) | omega | with_reducible apply le_size_alloc | with_reducible apply le_size_drewN | refine Nat.le_trans ?_ (Below.size (by assumption))))
  clear h24 b23
  go_wp2_with fail
  refine (wakes_yes _ _ _ _ (by rfl)).mono ?_
  rintro e w25 ⟨rfl, h25⟩
  have b25 : Below w.heap.size w w25 := (by repeat' (first | with_reducible exact Below.refl _ _ | with_reducible assumption | with_reducible apply Below.drew | with_reducible apply below_drewN | with_reducible apply Below.alloc | with_reducible apply Below.setCell | (with_reducible refine Below.trans ?_ (Below.mono (by assumption) ?_)) | (simp; done) | (simp; omega) | omega | with_reducible apply le_size_alloc | with_reducible apply le_size_drewN | refine Nat.le_trans ?_ (Below.size (by assumption))))
  clear h25 b24
  go_wp2_with fail
  refine (awake_any _).mono ?_
  rintro e w26 ⟨rfl, h26⟩
  have b26 : Below w.heap.size w w26 := (by repeat' (first | with_reducible exact Below.refl _ _ | with_reducible assumption | with_reducible apply Below.drew | with_reducible apply below_drewN | with_reducible apply Below.alloc | with_reducible apply Below.setCell | (with_reducible refine Below.trans ?_ (Below.mono (by assumption) ?_)) | (simp; done) | (simp; omega) | omega | with_reducible apply le_size_alloc | with_reducible apply le_size_drewN | refine Nat.le_trans ?_ (Below.size (by assumption))))
  clear h26 b25
  go_wp2_with fail
  refine (Check_any _ _ _ _ _).mono ?_
  rw [show zchk 3 3 10 20 = 8 from rfl]
  rintro e w27 ⟨rfl, h27⟩
  have b27 : Below w.heap.size w w27 := (by repeat' (first | with_reducible exact Below.refl _ _ | with_reducible assumption | with_reducible apply Below.drew | with_reducible apply below_drewN | with_reducible apply Below.alloc | with_reducible apply Below.setCell | (with_reducible refine Below.trans ?_ (Below.mono (by assumption) ?_)) | (simp; done) | (simp; omega) | omega | with_reducible apply le_size_alloc | with_reducible apply le_size_drewN | refine Nat.le_trans ?_ (Below.size (by assumption))))
  clear h27 b26
  go_wp2_with fail
  refine (Check_any _ _ _ _ _).mono ?_
  rw [show zchk 3 6 10 9 = 2 from rfl]
  rintro e w28 ⟨rfl, h28⟩
  have b28 : Below w.heap.size w w28 := (by repeat' (first | with_reducible exact Below.refl _ _ | with_reducible assumption | with_reducible apply Below.drew | with_reducible apply below_drewN | with_reducible apply Below.alloc | with_reducible apply Below.setCell | (with_reducible refine Below.trans ?_ (Below.mono (by assumption) ?_)) | (simp; done) | (simp; omega) | omega | with_reducible apply le_size_alloc | with_reducible apply le_size_drewN | refine Nat.le_trans ?_ (Below.size (by assumption))))
  clear h28 b27
  go_wp2
  go_ret
  exact ⟨by simp, (by repeat' (first | with_reducible exact Below.refl _ _ | with_reducible assumption | with_reducible apply Below.drew | with_reducible apply below_drewN | with_reducible apply Below.alloc | with_reducible apply Below.setCell | (with_reducible refine Below.trans ?_ (Below.mono (by assumption) ?_)) | (simp; done) | (simp; omega) | omega | with_reducible apply le_size_alloc | with_reducible apply le_size_drewN | refine Nat.le_trans ?_ (Below.size (by assumption))))⟩

set_option maxRecDepth 100000 in
theorem zoneKnown_lifted (os : Os) (started : os.Started) (H : Type) (enc : TypeId × Value → H) :
    ReturnsInHanded {} Try.checked os 5 .any (Rows.zoneKnownSpec.pre6 enc Try.prog Try.f5 Rows.zoneKnownRow.domain false) (Rows.zoneKnownSpec.post enc Try.prog Try.f5 false true false false) := by
  refine returnsInHanded_of_change (C := Try.checked) own started (by kernel_rfl) Try.func5
    (ChangeSpec.witness6 (enc := enc) (C := Try.checked) false ⟨#[], #[], []⟩ 8 (by kernel_rfl) (by kernel_rfl) (by kernel_rfl) (by kernel_rfl)) ?_
  intro W base args ds gs before hval0 hW hcnd _
  have hval : ∀ (j : Nat) t v, Try.f5.params[j]? = some t → args[j]? = some v → Value.okWide Try.prog W .any base t v := hval0
  have hW' := hW
  obtain ⟨p, q, hA0, hV, rfl, hfz, hnd⟩ := hW
  have hA : DataW.TrodAll enc Try.prog W 0 (fun _ => true) true Try.f5.params.toList args.toList ds p := hA0
  rw [Try.params5] at hA hval
  obtain ⟨rfl, rfl, rfl⟩ := trodAll_none hA
  obtain ⟨rfl, rfl⟩ := trodVars_none hV
  clear hA0 hval0
  refine (zoneKnown_walk   W).mono fun e W' ⟨he, hb⟩ => ⟨_, he, ?_⟩
  exact law_post laidOut (s := Rows.zoneKnownSpec) (B := 4) rfl rfl Try.underlying4 (by decide +kernel) hW' rfl hb

theorem zoneKnown_holds : Rows.ZoneKnownSaid :=
  OpenClaim.holds_of_wide 5 Try.f5 rfl rfl rfl rfl rfl rfl rfl ⟨rfl, rfl, rfl, rfl, rfl⟩ rfl rfl rfl rfl rfl (by kernel_rfl) Try.func5 (by kernel_rfl)
    (of_decide_eq_true (by kernel_rfl)) (by unfold Func.isWrapper; first | (rw [if_pos (by decide +kernel)]; kernel_rfl) | (rw [if_neg (by decide +kernel)]; exact ⟨rfl, rfl⟩))
    (fun os started H enc _ => zoneKnown_lifted os started H enc)

end Go.Proofs.Ytdkangjjiikdiaa
