/- A struct of many one-cell fields that came in as an argument, opened. Written by gen_agg.py. -/
import Derived.Test.YtmbpjafiinfkkaaGreatDoorClose
namespace Go.Proofs.YtmbpjafiinfkkaaGreatDoor
set_option linter.unusedSimpArgs false
set_option linter.unusedVariables false
open Go.RowKit Go.Maps
open Go.ChangeShapes Go.WideShapes Go.ChangeAt Go.Joins Go.Deep

section
variable {H : Type} {enc : TypeId × Value → H} {P : Program} {w : World} {base : Nat} {spare : Nat → Bool} {held : Bool}

theorem array9 {α : Type} {cs : Array α} (h : cs.size = 9) : ∃ c0 c1 c2 c3 c4 c5 c6 c7 c8, cs = #[c0, c1, c2, c3, c4, c5, c6, c7, c8] := by
  obtain ⟨l⟩ := cs
  match l, h with
  | [c0, c1, c2, c3, c4, c5, c6, c7, c8], _ => exact ⟨c0, c1, c2, c3, c4, c5, c6, c7, c8, rfl⟩
theorem list9 {α : Type} {cs : List α} (h : cs.length = 9) : ∃ c0 c1 c2 c3 c4 c5 c6 c7 c8, cs = [c0, c1, c2, c3, c4, c5, c6, c7, c8] := by
  match cs, h with
  | [c0, c1, c2, c3, c4, c5, c6, c7, c8], _ => exact ⟨c0, c1, c2, c3, c4, c5, c6, c7, c8, rfl⟩
set_option maxHeartbeats 4000000 in
theorem open_agg9 {r : Reach} {b0 : Nat} {t : TypeId} {f0 f1 f2 f3 f4 f5 f6 f7 f8 : Field} {v : Value} {d : DataW H} {p : List MemPlace} (hs : P.underlying t = some (.struct #[f0, f1, f2, f3, f4, f5, f6, f7, f8])) (hone : oneCellFields P #[f0, f1, f2, f3, f4, f5, f6, f7, f8] = true) (hC : P.cellsOf t = 9)
    (hv : Value.okWide P w r b0 t v) (h : DataW.Trod enc P w base spare held t v d p) :
    ∃ (v0 v1 v2 v3 v4 v5 v6 v7 v8 : Value) (y0 y1 y2 y3 y4 y5 y6 y7 y8 : DataW H × List MemPlace) (n : Nat), v = .agg #[v0, v1, v2, v3, v4, v5, v6, v7, v8] ∧ d = .agg [y0.1, y1.1, y2.1, y3.1, y4.1, y5.1, y6.1, y7.1, y8.1] ∧ p = [y0, y1, y2, y3, y4, y5, y6, y7, y8].flatMap (·.2) ∧
      DataW.trod enc P w base spare held n f0.type [v0] = some y0 ∧ DataW.trod enc P w base spare held n f1.type [v1] = some y1 ∧ DataW.trod enc P w base spare held n f2.type [v2] = some y2 ∧ DataW.trod enc P w base spare held n f3.type [v3] = some y3 ∧ DataW.trod enc P w base spare held n f4.type [v4] = some y4 ∧ DataW.trod enc P w base spare held n f5.type [v5] = some y5 ∧ DataW.trod enc P w base spare held n f6.type [v6] = some y6 ∧ DataW.trod enc P w base spare held n f7.type [v7] = some y7 ∧ DataW.trod enc P w base spare held n f8.type [v8] = some y8 := by
  obtain ⟨cs, rfl, hsz⟩ := okWide_struct hs hv
  obtain ⟨c0, c1, c2, c3, c4, c5, c6, c7, c8, rfl⟩ := array9 (hsz.trans hC)
  obtain ⟨fuel, hf⟩ := h
  obtain ⟨xs, n, _, hx, _, hlen, hf⟩ := DataW.trod_struct hs hf
  obtain ⟨y0, y1, y2, y3, y4, y5, y6, y7, y8, rfl⟩ := list9 (hlen.trans rfl)
  have h0 := hf 0 f0 rfl
  obtain ⟨o0, k0⟩ := hone_of hone 0 f0 rfl
  rw [o0, k0] at h0
  clear o0 k0
  have h1 := hf 1 f1 rfl
  obtain ⟨o1, k1⟩ := hone_of hone 1 f1 rfl
  rw [o1, k1] at h1
  clear o1 k1
  have h2 := hf 2 f2 rfl
  obtain ⟨o2, k2⟩ := hone_of hone 2 f2 rfl
  rw [o2, k2] at h2
  clear o2 k2
  have h3 := hf 3 f3 rfl
  obtain ⟨o3, k3⟩ := hone_of hone 3 f3 rfl
  rw [o3, k3] at h3
  clear o3 k3
  have h4 := hf 4 f4 rfl
  obtain ⟨o4, k4⟩ := hone_of hone 4 f4 rfl
  rw [o4, k4] at h4
  clear o4 k4
  have h5 := hf 5 f5 rfl
  obtain ⟨o5, k5⟩ := hone_of hone 5 f5 rfl
  rw [o5, k5] at h5
  clear o5 k5
  have h6 := hf 6 f6 rfl
  obtain ⟨o6, k6⟩ := hone_of hone 6 f6 rfl
  rw [o6, k6] at h6
  clear o6 k6
  have h7 := hf 7 f7 rfl
  obtain ⟨o7, k7⟩ := hone_of hone 7 f7 rfl
  rw [o7, k7] at h7
  clear o7 k7
  have h8 := hf 8 f8 rfl
  obtain ⟨o8, k8⟩ := hone_of hone 8 f8 rfl
  rw [o8, k8] at h8
  clear o8 k8
  clear hf hlen hone
  simp only [Prod.mk.injEq] at hx
  exact ⟨c0, c1, c2, c3, c4, c5, c6, c7, c8, y0, y1, y2, y3, y4, y5, y6, y7, y8, n, rfl, hx.1, hx.2, h0, h1, h2, h3, h4, h5, h6, h7, h8⟩

theorem array15 {α : Type} {cs : Array α} (h : cs.size = 15) : ∃ c0 c1 c2 c3 c4 c5 c6 c7 c8 c9 c10 c11 c12 c13 c14, cs = #[c0, c1, c2, c3, c4, c5, c6, c7, c8, c9, c10, c11, c12, c13, c14] := by
  obtain ⟨l⟩ := cs
  match l, h with
  | [c0, c1, c2, c3, c4, c5, c6, c7, c8, c9, c10, c11, c12, c13, c14], _ => exact ⟨c0, c1, c2, c3, c4, c5, c6, c7, c8, c9, c10, c11, c12, c13, c14, rfl⟩
theorem list15 {α : Type} {cs : List α} (h : cs.length = 15) : ∃ c0 c1 c2 c3 c4 c5 c6 c7 c8 c9 c10 c11 c12 c13 c14, cs = [c0, c1, c2, c3, c4, c5, c6, c7, c8, c9, c10, c11, c12, c13, c14] := by
  match cs, h with
  | [c0, c1, c2, c3, c4, c5, c6, c7, c8, c9, c10, c11, c12, c13, c14], _ => exact ⟨c0, c1, c2, c3, c4, c5, c6, c7, c8, c9, c10, c11, c12, c13, c14, rfl⟩
set_option maxHeartbeats 4000000 in
theorem open_agg15 {r : Reach} {b0 : Nat} {t : TypeId} {f0 f1 f2 f3 f4 f5 f6 f7 f8 f9 f10 f11 f12 f13 f14 : Field} {v : Value} {d : DataW H} {p : List MemPlace} (hs : P.underlying t = some (.struct #[f0, f1, f2, f3, f4, f5, f6, f7, f8, f9, f10, f11, f12, f13, f14])) (hone : oneCellFields P #[f0, f1, f2, f3, f4, f5, f6, f7, f8, f9, f10, f11, f12, f13, f14] = true) (hC : P.cellsOf t = 15)
    (hv : Value.okWide P w r b0 t v) (h : DataW.Trod enc P w base spare held t v d p) :
    ∃ (v0 v1 v2 v3 v4 v5 v6 v7 v8 v9 v10 v11 v12 v13 v14 : Value) (y0 y1 y2 y3 y4 y5 y6 y7 y8 y9 y10 y11 y12 y13 y14 : DataW H × List MemPlace) (n : Nat), v = .agg #[v0, v1, v2, v3, v4, v5, v6, v7, v8, v9, v10, v11, v12, v13, v14] ∧ d = .agg [y0.1, y1.1, y2.1, y3.1, y4.1, y5.1, y6.1, y7.1, y8.1, y9.1, y10.1, y11.1, y12.1, y13.1, y14.1] ∧ p = [y0, y1, y2, y3, y4, y5, y6, y7, y8, y9, y10, y11, y12, y13, y14].flatMap (·.2) ∧
      DataW.trod enc P w base spare held n f0.type [v0] = some y0 ∧ DataW.trod enc P w base spare held n f1.type [v1] = some y1 ∧ DataW.trod enc P w base spare held n f2.type [v2] = some y2 ∧ DataW.trod enc P w base spare held n f3.type [v3] = some y3 ∧ DataW.trod enc P w base spare held n f4.type [v4] = some y4 ∧ DataW.trod enc P w base spare held n f5.type [v5] = some y5 ∧ DataW.trod enc P w base spare held n f6.type [v6] = some y6 ∧ DataW.trod enc P w base spare held n f7.type [v7] = some y7 ∧ DataW.trod enc P w base spare held n f8.type [v8] = some y8 ∧ DataW.trod enc P w base spare held n f9.type [v9] = some y9 ∧ DataW.trod enc P w base spare held n f10.type [v10] = some y10 ∧ DataW.trod enc P w base spare held n f11.type [v11] = some y11 ∧ DataW.trod enc P w base spare held n f12.type [v12] = some y12 ∧ DataW.trod enc P w base spare held n f13.type [v13] = some y13 ∧ DataW.trod enc P w base spare held n f14.type [v14] = some y14 := by
  obtain ⟨cs, rfl, hsz⟩ := okWide_struct hs hv
  obtain ⟨c0, c1, c2, c3, c4, c5, c6, c7, c8, c9, c10, c11, c12, c13, c14, rfl⟩ := array15 (hsz.trans hC)
  obtain ⟨fuel, hf⟩ := h
  obtain ⟨xs, n, _, hx, _, hlen, hf⟩ := DataW.trod_struct hs hf
  obtain ⟨y0, y1, y2, y3, y4, y5, y6, y7, y8, y9, y10, y11, y12, y13, y14, rfl⟩ := list15 (hlen.trans rfl)
  have h0 := hf 0 f0 rfl
  obtain ⟨o0, k0⟩ := hone_of hone 0 f0 rfl
  rw [o0, k0] at h0
  clear o0 k0
  have h1 := hf 1 f1 rfl
  obtain ⟨o1, k1⟩ := hone_of hone 1 f1 rfl
  rw [o1, k1] at h1
  clear o1 k1
  have h2 := hf 2 f2 rfl
  obtain ⟨o2, k2⟩ := hone_of hone 2 f2 rfl
  rw [o2, k2] at h2
  clear o2 k2
  have h3 := hf 3 f3 rfl
  obtain ⟨o3, k3⟩ := hone_of hone 3 f3 rfl
  rw [o3, k3] at h3
  clear o3 k3
  have h4 := hf 4 f4 rfl
  obtain ⟨o4, k4⟩ := hone_of hone 4 f4 rfl
  rw [o4, k4] at h4
  clear o4 k4
  have h5 := hf 5 f5 rfl
  obtain ⟨o5, k5⟩ := hone_of hone 5 f5 rfl
  rw [o5, k5] at h5
  clear o5 k5
  have h6 := hf 6 f6 rfl
  obtain ⟨o6, k6⟩ := hone_of hone 6 f6 rfl
  rw [o6, k6] at h6
  clear o6 k6
  have h7 := hf 7 f7 rfl
  obtain ⟨o7, k7⟩ := hone_of hone 7 f7 rfl
  rw [o7, k7] at h7
  clear o7 k7
  have h8 := hf 8 f8 rfl
  obtain ⟨o8, k8⟩ := hone_of hone 8 f8 rfl
  rw [o8, k8] at h8
  clear o8 k8
  have h9 := hf 9 f9 rfl
  obtain ⟨o9, k9⟩ := hone_of hone 9 f9 rfl
  rw [o9, k9] at h9
  clear o9 k9
  have h10 := hf 10 f10 rfl
  obtain ⟨o10, k10⟩ := hone_of hone 10 f10 rfl
  rw [o10, k10] at h10
  clear o10 k10
  have h11 := hf 11 f11 rfl
  obtain ⟨o11, k11⟩ := hone_of hone 11 f11 rfl
  rw [o11, k11] at h11
  clear o11 k11
  have h12 := hf 12 f12 rfl
  obtain ⟨o12, k12⟩ := hone_of hone 12 f12 rfl
  rw [o12, k12] at h12
  clear o12 k12
  have h13 := hf 13 f13 rfl
  obtain ⟨o13, k13⟩ := hone_of hone 13 f13 rfl
  rw [o13, k13] at h13
  clear o13 k13
  have h14 := hf 14 f14 rfl
  obtain ⟨o14, k14⟩ := hone_of hone 14 f14 rfl
  rw [o14, k14] at h14
  clear o14 k14
  clear hf hlen hone
  simp only [Prod.mk.injEq] at hx
  exact ⟨c0, c1, c2, c3, c4, c5, c6, c7, c8, c9, c10, c11, c12, c13, c14, y0, y1, y2, y3, y4, y5, y6, y7, y8, y9, y10, y11, y12, y13, y14, n, rfl, hx.1, hx.2, h0, h1, h2, h3, h4, h5, h6, h7, h8, h9, h10, h11, h12, h13, h14⟩
end
end Go.Proofs.YtmbpjafiinfkkaaGreatDoor
