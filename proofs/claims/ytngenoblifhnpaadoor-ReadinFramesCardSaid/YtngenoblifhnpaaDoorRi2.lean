/- Contracts of package readin: Begin, can. -/
import Derived.Test.YtngenoblifhnpaaDoorRi1
namespace Go.Proofs.YtngenoblifhnpaaDoor
open Go.RowKit Go.Maps

/-- What Begin hands back. -/
def begR (g : Int) : RI × Int := if frOk g then ((1, -1, g), 0) else ((0, 0, 0), 2)
/-- An access as a value. -/
def riV (r : RI) : Value := .agg #[.int .i64 r.1, .int .i64 r.2.1, .int .i64 r.2.2]
theorem cells3 {w : World} {B : Nat} {u0 u1 u2 : Value} (q0 : w.cell? ⟨B, 0, none⟩ = some u0) (q1 : w.cell? ⟨B, 1, none⟩ = some u1) (q2 : w.cell? ⟨B, 2, none⟩ = some u2) (s1 s2 s3 : Value) :
    (((w.setCell ⟨B, 0, none⟩ s1).setCell ⟨B, 1, none⟩ s2).setCell ⟨B, 2, none⟩ s3).cell? ⟨B, 0, none⟩ = some s1 ∧ (((w.setCell ⟨B, 0, none⟩ s1).setCell ⟨B, 1, none⟩ s2).setCell ⟨B, 2, none⟩ s3).cell? ⟨B, 1, none⟩ = some s2 ∧
    (((w.setCell ⟨B, 0, none⟩ s1).setCell ⟨B, 1, none⟩ s2).setCell ⟨B, 2, none⟩ s3).cell? ⟨B, 2, none⟩ = some s3 := by
  simp [go_sem, q0, q1, q2]
set_option maxHeartbeats 2000000 in
theorem Begin_any (g : Int) (w : World) {r : RI} {z : Int} (h : begR g = (r, z)) :
    Calls Tryd.prog 8 #[.int .i64 g] w fun e w' => e = .returned (.tuple #[.agg #[.int .i64 r.1, .int .i64 r.2.1, .int .i64 r.2.2], .int .i64 z]) ∧ Below w.heap.size w w' := by
  unfold begR at h
  rcases frOk_cases g with ⟨rfl, hg⟩ | ⟨ng, dg, hg⟩ | ⟨ng, dg, hg⟩
  · rw [hg, if_pos rfl] at h
    obtain ⟨rfl, rfl⟩ := Prod.mk.inj h
    clear h hg
    go_enter Tryd.func8, Tryd.ntmps8
    go_wp2_with fail
    refine bodyPost_ret (v := .tuple #[.agg #[.int .i64 1, .int .i64 (-1), .int .i64 (-1)], .int .i64 0]) (by simp [results, Tryd.results8, go_sem]) rfl ?_
    exact ⟨rfl, (by repeat' (first | with_reducible exact Below.refl _ _ | with_reducible assumption | with_reducible apply Below.drew | with_reducible apply below_drewN | with_reducible apply Below.alloc | with_reducible apply Below.setCell | (with_reducible refine Below.trans ?_ (Below.mono (by assumption) ?_)) | (simp; done) | (simp; omega) | omega | with_reducible apply le_size_alloc | with_reducible apply le_size_drewN | with_reducible apply le_size_drew | with_reducible apply le_size_setCell | refine Nat.le_trans ?_ (Below.size (by assumption))))⟩
  · rw [hg, if_pos rfl] at h
    obtain ⟨rfl, rfl⟩ := Prod.mk.inj h
    have nc : (g != -1) = true := by simpa using ng
    clear h hg
    go_enter Tryd.func8, Tryd.ntmps8
    go_wp2_with (first | (go_at_call 35; with_reducible refine (isFrame_b g _ dg _).mono ?_; rintro e w' ⟨rfl, rfl⟩))
    refine bodyPost_ret (v := .tuple #[.agg #[.int .i64 1, .int .i64 (-1), .int .i64 g], .int .i64 0]) (by simp [results, Tryd.results8, go_sem]) rfl ?_
    exact ⟨rfl, (by repeat' (first | with_reducible exact Below.refl _ _ | with_reducible assumption | with_reducible apply Below.drew | with_reducible apply below_drewN | with_reducible apply Below.alloc | with_reducible apply Below.setCell | (with_reducible refine Below.trans ?_ (Below.mono (by assumption) ?_)) | (simp; done) | (simp; omega) | omega | with_reducible apply le_size_alloc | with_reducible apply le_size_drewN | with_reducible apply le_size_drew | with_reducible apply le_size_setCell | refine Nat.le_trans ?_ (Below.size (by assumption))))⟩
  · rw [hg, if_neg (by simp)] at h
    obtain ⟨rfl, rfl⟩ := Prod.mk.inj h
    have nc : (g != -1) = true := by simpa using ng
    clear h hg
    go_enter Tryd.func8, Tryd.ntmps8
    go_wp2_with (first | (go_at_call 35; with_reducible refine (isFrame_b g _ dg _).mono ?_; rintro e w' ⟨rfl, rfl⟩))
    refine bodyPost_ret (v := .tuple #[.agg #[.int .i64 0, .int .i64 0, .int .i64 0], .int .i64 2]) (by simp [results, Tryd.results8, go_sem]) rfl ?_
    exact ⟨rfl, (by repeat' (first | with_reducible exact Below.refl _ _ | with_reducible assumption | with_reducible apply Below.drew | with_reducible apply below_drewN | with_reducible apply Below.alloc | with_reducible apply Below.setCell | (with_reducible refine Below.trans ?_ (Below.mono (by assumption) ?_)) | (simp; done) | (simp; omega) | omega | with_reducible apply le_size_alloc | with_reducible apply le_size_drewN | with_reducible apply le_size_drew | with_reducible apply le_size_setCell | refine Nat.le_trans ?_ (Below.size (by assumption))))⟩

/-- The table of package readin lies in block 0. -/
def tblR : List Int := [0, 0, 66, 84, 72, 84, 96, 0, 0, 80, 0, 0, 32, 0, 0, 16, 0, 0]
def AL (w : World) : Prop := 0 < w.heap.size ∧ ∀ (i : Nat) x, tblR[i]? = some x → w.cell? ⟨0, i, none⟩ = some (.int .u8 x)
theorem AL.ext {w w' : World} (h : AL w) (hb : Below w.heap.size w w') : AL w' := ⟨Nat.lt_of_lt_of_le h.1 hb.size, fun i x hx => cell_keep hb (h.2 i x hx) h.1⟩

set_option maxRecDepth 100000 in
set_option maxHeartbeats 16000000 in
theorem can_any (s f g e : Int) (w : World) (hal : AL w) (h1 : 1 ≤ s) (h8 : s ≤ 8) (e1 : 1 ≤ e) (e6 : e ≤ 6) :
    Calls Tryd.prog 40 #[.agg #[.int .i64 s, .int .i64 f, .int .i64 g], .int .i64 e] w fun er w' => er = .returned (.bool (canR (s, f, g) e)) ∧ Below w.heap.size w w' := by
  have hz := hal.1
  have hne : ¬ 0 = w.heap.size := by omega
  have t0 := hal.2 0 0 rfl
  have t1 := hal.2 1 0 rfl
  have t2 := hal.2 2 66 rfl
  have t3 := hal.2 3 84 rfl
  have t4 := hal.2 4 72 rfl
  have t5 := hal.2 5 84 rfl
  have t6 := hal.2 6 96 rfl
  have t7 := hal.2 7 0 rfl
  have t8 := hal.2 8 0 rfl
  have t9 := hal.2 9 80 rfl
  have t10 := hal.2 10 0 rfl
  have t11 := hal.2 11 0 rfl
  have t12 := hal.2 12 32 rfl
  have t13 := hal.2 13 0 rfl
  have t14 := hal.2 14 0 rfl
  have t15 := hal.2 15 16 rfl
  have t16 := hal.2 16 0 rfl
  have t17 := hal.2 17 0 rfl
  clear hal
  by_cases hg : g = -1
  · subst hg
    rcases (by omega : s = 1 ∨ s = 2 ∨ s = 3 ∨ s = 4 ∨ s = 5 ∨ s = 6 ∨ s = 7 ∨ s = 8) with rfl | rfl | rfl | rfl | rfl | rfl | rfl | rfl
    all_goals
      rcases (by omega : e = 1 ∨ e = 2 ∨ e = 3 ∨ e = 4 ∨ e = 5 ∨ e = 6) with rfl | rfl | rfl | rfl | rfl | rfl
      all_goals
        go_enter Tryd.func40, Tryd.ntmps40
        go_wp2_with fail
        go_ret
        exact ⟨ret_bool (by simp [canR] <;> decide), (by repeat' (first | with_reducible exact Below.refl _ _ | with_reducible assumption | with_reducible apply Below.drew | with_reducible apply below_drewN | with_reducible apply Below.alloc | with_reducible apply Below.setCell | (with_reducible refine Below.trans ?_ (Below.mono (by assumption) ?_)) | (simp; done) | (simp; omega) | omega | with_reducible apply le_size_alloc | with_reducible apply le_size_drewN | with_reducible apply le_size_drew | with_reducible apply le_size_setCell | refine Nat.le_trans ?_ (Below.size (by assumption))))⟩
  · have nc : (g != -1) = true := by simpa using hg
    rcases (by omega : s = 1 ∨ s = 2 ∨ s = 3 ∨ s = 4 ∨ s = 5 ∨ s = 6 ∨ s = 7 ∨ s = 8) with rfl | rfl | rfl | rfl | rfl | rfl | rfl | rfl
    all_goals
      rcases (by omega : e = 1 ∨ e = 2 ∨ e = 3 ∨ e = 4 ∨ e = 5 ∨ e = 6) with rfl | rfl | rfl | rfl | rfl | rfl
      all_goals
        go_enter Tryd.func40, Tryd.ntmps40
        go_wp2_with fail
        go_ret
        exact ⟨ret_bool (by simp [canR, hg] <;> decide), (by repeat' (first | with_reducible exact Below.refl _ _ | with_reducible assumption | with_reducible apply Below.drew | with_reducible apply below_drewN | with_reducible apply Below.alloc | with_reducible apply Below.setCell | (with_reducible refine Below.trans ?_ (Below.mono (by assumption) ?_)) | (simp; done) | (simp; omega) | omega | with_reducible apply le_size_alloc | with_reducible apply le_size_drewN | with_reducible apply le_size_drew | with_reducible apply le_size_setCell | refine Nat.le_trans ?_ (Below.size (by assumption))))⟩
end Go.Proofs.YtngenoblifhnpaaDoor
