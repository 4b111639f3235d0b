/- Package oom: compare; the sort of candidates; the greatest one. Written by gen_oc.py. -/
import Derived.Test.YtmbpjafiinfkkaaGreatDoorRmC
import Derived.Test.YtmbpjafiinfkkaaGreatDoorOL1
import Derived.Test.YtmbpjafiinfkkaaGreatDoorOwnR
import Derived.Shelf.SlSortCmp.NoneTotal
namespace Go.Proofs.YtmbpjafiinfkkaaGreatDoor
set_option linter.unusedSimpArgs false
set_option linter.unusedVariables false
open Go.RowKit Go.Maps
open Go.Shelf Go.Sort

/-- Candidates as a row. -/
def canE : Elt Tryz.prog C2 where
  e := 73
  s := 75
  sz := 2
  bytes := 16
  z := .agg #[.int .i64 0, .int .i64 0]
  enc x := [.int .i64 x.1, .int .i64 x.2]
  hs := Tryz.underlying75
  hi := by kernel_rfl
  hz := rfl
  hlen _ := rfl
  hone _ u hu := by simp at hu; rcases hu with rfl | rfl <;> rfl
  pos := by decide
  few := by decide
theorem can_at {w : World} {A : Option Addr} {l : List C2} {k : Nat} (h : SR canE w A l) (hk : k < l.length) :
    ∃ b off x, A = some ⟨b, off, none⟩ ∧ b < w.heap.size ∧ l[k]? = some x ∧ w.cell? ⟨b, off + k * 2, none⟩ = some (.int .i64 x.1) ∧ w.cell? ⟨b, off + k * 2 + 1, none⟩ = some (.int .i64 x.2) := by
  obtain ⟨b, off, x, e, hb, hx, hc⟩ := h.at_ hk
  exact ⟨b, off, x, e, hb, hx, hc 0 _ rfl, hc 1 _ rfl⟩
/-- The first number that is not 0. -/
def or2 (a b : Int) : Int := if a ≠ 0 then a else b
theorem or2_any (g : Nat) (a b : Int) (w : World) (h : Blk w g 3 #[.int .i64 a, .int .i64 b]) :
    Calls Tryz.prog 68 #[.slice (some ⟨g, 0, none⟩) 2 2] w fun e w' => e = .returned (.int .i64 (or2 a b)) ∧ w = w' := by
  have c0 := h.cell_ 0
  have c1 := h.cell_ 1
  have hl := h.lt
  simp at c0 c1
  by_cases ha : a = 0
  · subst ha
    by_cases hb : b = 0
    · subst hb
      go_enter Tryz.func68, Tryz.ntmps68
      go_wp2
      refine wp_loop_rounds 3 ?_
      rw [rounds_succ]
      go_wp2
      rw [rounds_succ]
      go_wp2
      rw [rounds_succ]
      go_wp2
      go_ret
      exact ⟨rfl, rfl⟩
    · have hbb : (b != 0) = true := by simpa using hb
      go_enter Tryz.func68, Tryz.ntmps68
      go_wp2
      refine wp_loop_rounds 2 ?_
      rw [rounds_succ]
      go_wp2
      rw [rounds_succ]
      go_wp2
      go_ret
      exact ⟨ret_int (by simp [or2]), rfl⟩
  · have hab : (a != 0) = true := by simpa using ha
    go_enter Tryz.func68, Tryz.ntmps68
    go_wp2
    refine wp_loop_rounds 1 ?_
    rw [rounds_succ]
    go_wp2
    go_ret
    exact ⟨ret_int (by simp [or2, ha]), rfl⟩

/-- compare. -/
def cmpC (x y : C2) : Int := or2 (cmpI x.2 y.2) (cmpI y.1 x.1)
namespace FreeD
set_option maxRecDepth 100000 in
set_option maxHeartbeats 4000000 in
theorem cmpC_laid (x y : C2) (w : World) :
    Calls Tryz.prog 44 #[.agg #[.int .i64 x.1, .int .i64 x.2], .agg #[.int .i64 y.1, .int .i64 y.2]] w fun e w' => e = .returned (.int .i64 (cmpC x y)) ∧ BelD w.heap.size w w' := by
  go_enter Tryz.func44, Tryz.ntmps44
  go_wp2
  obtain ⟨V, hV⟩ : ∃ V, (w.alloc (.cells #[.int .i64 x.1, .int .i64 x.2] 73)).alloc (.cells #[.int .i64 y.1, .int .i64 y.2] 73) = V := ⟨_, rfl⟩
  have BV : BelD w.heap.size w V := by rw [← hV]; exact ((BelD.refl _ w).alloc (Nat.le_refl _) _).alloc (by simp) _
  have kx : Blk V w.heap.size 73 #[.int .i64 x.1, .int .i64 x.2] := by rw [← hV]; exact (by repeat' (first | with_reducible assumption | (with_reducible refine Blk.new_ ?_ ?_ <;> first | (simp; done) | rfl) | with_reducible apply Blk.drew_ | with_reducible apply Blk.drewN_ | with_reducible apply Blk.alloc_ | with_reducible refine Blk.far_ ?_ ?_ _ | (with_reducible refine Blk.below_ ?_ (by assumption) ?_) | (simp; done) | (simp; omega) | omega | with_reducible apply le_size_alloc | with_reducible apply lt_size_alloc | with_reducible apply le_size_drewN | with_reducible apply le_size_drew | with_reducible apply le_size_setCell | refine Nat.lt_of_lt_of_le ?_ (Below.size (by assumption)) | refine Nat.le_trans ?_ (Below.size (by assumption))))
  have ky : Blk V (w.heap.size + 1) 73 #[.int .i64 y.1, .int .i64 y.2] := by rw [← hV]; exact (by repeat' (first | with_reducible assumption | (with_reducible refine Blk.new_ ?_ ?_ <;> first | (simp; done) | rfl) | with_reducible apply Blk.drew_ | with_reducible apply Blk.drewN_ | with_reducible apply Blk.alloc_ | with_reducible refine Blk.far_ ?_ ?_ _ | (with_reducible refine Blk.below_ ?_ (by assumption) ?_) | (simp; done) | (simp; omega) | omega | with_reducible apply le_size_alloc | with_reducible apply lt_size_alloc | with_reducible apply le_size_drewN | with_reducible apply le_size_drew | with_reducible apply le_size_setCell | refine Nat.lt_of_lt_of_le ?_ (Below.size (by assumption)) | refine Nat.le_trans ?_ (Below.size (by assumption))))
  have hsz : V.heap.size = w.heap.size + 2 := by rw [← hV]; simp
  rw [hV]
  clear hV
  have z0 : ∀ W : World, BelD V.heap.size V W → W.cell? ⟨w.heap.size, 0, none⟩ = some (.int .i64 x.1) := fun W h => by simpa using (kx.below_ h.b kx.lt).cell_ 0
  have z1 : ∀ W : World, BelD V.heap.size V W → W.cell? ⟨w.heap.size, 1, none⟩ = some (.int .i64 x.2) := fun W h => by simpa using (kx.below_ h.b kx.lt).cell_ 1
  have y0 : ∀ W : World, BelD V.heap.size V W → W.cell? ⟨w.heap.size + 1, 0, none⟩ = some (.int .i64 y.1) := fun W h => by simpa using (ky.below_ h.b ky.lt).cell_ 0
  have y1 : ∀ W : World, BelD V.heap.size V W → W.cell? ⟨w.heap.size + 1, 1, none⟩ = some (.int .i64 y.2) := fun W h => by simpa using (ky.below_ h.b ky.lt).cell_ 1
  refine wp_region_chain [.is ?f0, .is ?f1, .is ?f2, .is ?f3, .is (.int .i64 (cmpI x.2 y.2)), .is ?f5, .is ?f6, .is ?f7, .is ?f8, .is (.int .i64 (cmpI y.1 x.1)), .has (LitS 3 2 [.int .i64 (cmpI x.2 y.2), .int .i64 (cmpI y.1 x.1)]), .is (.int .i64 (or2 (cmpI x.2 y.2) (cmpI y.1 x.1))), .is ?f12] (by kernel_rfl) (by kernel_rfl) (by kernel_rfl) (lasts_is (lasts_is (lasts_is (lasts_is (lasts_is (lasts_is (lasts_is (lasts_is (lasts_is (lasts_is (lasts_has (LitS.lasts 3 2 [.int .i64 (cmpI x.2 y.2), .int .i64 (cmpI y.1 x.1)]) (lasts_is (lasts_is lasts_nil))))))))))))) (fun W0 hb0 hz0 => ?_)
  rotate_left 9
  refine chain_is (step_take (by rfl) ?y0) ?r0
  case y0 =>
    intro w hbw hd
    clear hd
    go_simp
    first | done | with_reducible rfl
  (try simp only [Act.put, List.setIfInBounds_toArray, List.set_cons_zero, List.set_cons_succ, List.nil_append, List.cons_append])
  refine chain_is (step_take (by rfl) ?y1) ?r1
  case y1 =>
    intro w hbw hd
    have q := z1 w (hb0.trans (hbw.mono hb0.size))
    clear hd
    go_simp
    first | done | with_reducible rfl
  (try simp only [Act.put, List.setIfInBounds_toArray, List.set_cons_zero, List.set_cons_succ, List.nil_append, List.cons_append])
  refine chain_is (step_take (by rfl) ?y2) ?r2
  case y2 =>
    intro w hbw hd
    clear hd
    go_simp
    first | done | with_reducible rfl
  (try simp only [Act.put, List.setIfInBounds_toArray, List.set_cons_zero, List.set_cons_succ, List.nil_append, List.cons_append])
  refine chain_is (step_take (by rfl) ?y3) ?r3
  case y3 =>
    intro w hbw hd
    have q := y1 w (hb0.trans (hbw.mono hb0.size))
    clear hd
    go_simp
    first | done | with_reducible rfl
  (try simp only [Act.put, List.setIfInBounds_toArray, List.set_cons_zero, List.set_cons_succ, List.nil_append, List.cons_append])
  refine chain_is ?s4 ?r4
  case s4 =>
    intro w hbw hd K Q' hK
    clear hd
    go_simp
    refine (cmpC_any _ _ _).mono ?_
    rintro e x1 ⟨rfl, rfl⟩
    go_wp2_with fail
    refine hK.out (.int .i64 (cmpI x.2 y.2)) _ _ ?_ ?_ rfl
    · (simp only [Act.put, List.setIfInBounds_toArray, List.set_cons_zero, List.set_cons_succ, List.nil_append, List.cons_append])
    · exact (by repeat' (first | with_reducible exact BelD.refl _ _ | with_reducible assumption | with_reducible apply BelD.drew | with_reducible apply BelD.drewN | with_reducible apply BelD.alloc | (with_reducible refine BelD.trans ?_ (BelD.mono (by assumption) ?_)) | (simp; done) | (simp; omega) | omega | with_reducible apply le_size_alloc | with_reducible apply le_size_drewN | with_reducible apply le_size_drew | with_reducible refine Nat.le_trans ?_ (BelD.size (by assumption))))
  (try simp only [Act.put, List.setIfInBounds_toArray, List.set_cons_zero, List.set_cons_succ, List.nil_append, List.cons_append])
  refine chain_is (step_take (by rfl) ?y5) ?r5
  case y5 =>
    intro w hbw hd
    clear hd
    go_simp
    first | done | with_reducible rfl
  (try simp only [Act.put, List.setIfInBounds_toArray, List.set_cons_zero, List.set_cons_succ, List.nil_append, List.cons_append])
  refine chain_is (step_take (by rfl) ?y6) ?r6
  case y6 =>
    intro w hbw hd
    have q := y0 w (hb0.trans (hbw.mono hb0.size))
    clear hd
    go_simp
    first | done | with_reducible rfl
  (try simp only [Act.put, List.setIfInBounds_toArray, List.set_cons_zero, List.set_cons_succ, List.nil_append, List.cons_append])
  refine chain_is (step_take (by rfl) ?y7) ?r7
  case y7 =>
    intro w hbw hd
    clear hd
    go_simp
    first | done | with_reducible rfl
  (try simp only [Act.put, List.setIfInBounds_toArray, List.set_cons_zero, List.set_cons_succ, List.nil_append, List.cons_append])
  refine chain_is (step_take (by rfl) ?y8) ?r8
  case y8 =>
    intro w hbw hd
    have q := z0 w (hb0.trans (hbw.mono hb0.size))
    clear hd
    go_simp
    first | done | with_reducible rfl
  (try simp only [Act.put, List.setIfInBounds_toArray, List.set_cons_zero, List.set_cons_succ, List.nil_append, List.cons_append])
  refine chain_is ?s9 ?r9
  case s9 =>
    intro w hbw hd K Q' hK
    clear hd
    go_simp
    refine (cmpC_any _ _ _).mono ?_
    rintro e x1 ⟨rfl, rfl⟩
    go_wp2_with fail
    refine hK.out (.int .i64 (cmpI y.1 x.1)) _ _ ?_ ?_ rfl
    · (simp only [Act.put, List.setIfInBounds_toArray, List.set_cons_zero, List.set_cons_succ, List.nil_append, List.cons_append])
    · exact (by repeat' (first | with_reducible exact BelD.refl _ _ | with_reducible assumption | with_reducible apply BelD.drew | with_reducible apply BelD.drewN | with_reducible apply BelD.alloc | (with_reducible refine BelD.trans ?_ (BelD.mono (by assumption) ?_)) | (simp; done) | (simp; omega) | omega | with_reducible apply le_size_alloc | with_reducible apply le_size_drewN | with_reducible apply le_size_drew | with_reducible refine Nat.le_trans ?_ (BelD.size (by assumption))))
  (try simp only [Act.put, List.setIfInBounds_toArray, List.set_cons_zero, List.set_cons_succ, List.nil_append, List.cons_append])
  refine chain_has ?s10 (fun v10 => ?r10)
  case s10 =>
    intro w hbw hd K Q' hK
    clear hd
    go_simp
    go_wp2_with fail
    refine hK.out (.slice (some ⟨w.heap.size, 0, none⟩) 2 2) _ _ ?_ ?_ ?_
    · (simp only [Act.put, List.setIfInBounds_toArray, List.set_cons_zero, List.set_cons_succ, List.nil_append, List.cons_append])
    · exact (by repeat' (first | with_reducible exact BelD.refl _ _ | with_reducible assumption | with_reducible apply BelD.drew | with_reducible apply BelD.drewN | with_reducible apply BelD.alloc | (with_reducible refine BelD.trans ?_ (BelD.mono (by assumption) ?_)) | (simp; done) | (simp; omega) | omega | with_reducible apply le_size_alloc | with_reducible apply le_size_drewN | with_reducible apply le_size_drew | with_reducible refine Nat.le_trans ?_ (BelD.size (by assumption))))
    · exact ⟨_, rfl, Blk.new_ rfl rfl⟩
  (try simp only [Act.put, List.setIfInBounds_toArray, List.set_cons_zero, List.set_cons_succ, List.nil_append, List.cons_append])
  refine chain_is ?s11 ?r11
  case s11 =>
    intro w hbw hd K Q' hK
    obtain ⟨g, rfl, kg⟩ : LitS 3 2 [.int .i64 (cmpI x.2 y.2), .int .i64 (cmpI y.1 x.1)] _ w := hd 10 _ _ (by rfl) rfl rfl
    clear hd
    go_simp
    refine (or2_any g _ _ _ kg).mono ?_
    rintro e x1 ⟨rfl, rfl⟩
    go_wp2_with fail
    refine hK.out (.int .i64 (or2 (cmpI x.2 y.2) (cmpI y.1 x.1))) _ _ ?_ ?_ rfl
    · (simp only [Act.put, List.setIfInBounds_toArray, List.set_cons_zero, List.set_cons_succ, List.nil_append, List.cons_append])
    · exact (by repeat' (first | with_reducible exact BelD.refl _ _ | with_reducible assumption | with_reducible apply BelD.drew | with_reducible apply BelD.drewN | with_reducible apply BelD.alloc | (with_reducible refine BelD.trans ?_ (BelD.mono (by assumption) ?_)) | (simp; done) | (simp; omega) | omega | with_reducible apply le_size_alloc | with_reducible apply le_size_drewN | with_reducible apply le_size_drew | with_reducible refine Nat.le_trans ?_ (BelD.size (by assumption))))
  (try simp only [Act.put, List.setIfInBounds_toArray, List.set_cons_zero, List.set_cons_succ, List.nil_append, List.cons_append])
  refine chain_is (step_take (by rfl) ?y12) ?r12
  case y12 =>
    intro w hbw hd
    clear hd
    go_simp
    first | done | with_reducible rfl
  (try simp only [Act.put, List.setIfInBounds_toArray, List.set_cons_zero, List.set_cons_succ, List.nil_append, List.cons_append])
  refine chain_end (fun wz hbz hd => ?_)
  go_wp2_with fail
  go_ret
  exact ⟨rfl, BV.trans ((hb0.trans (hbz.mono hb0.size)).mono BV.size)⟩

set_option maxRecDepth 100000 in
set_option maxHeartbeats 2000000 in
theorem less_laid (x y : C2) (w : World) :
    Calls Tryz.prog 46 #[.agg #[.int .i64 x.1, .int .i64 x.2], .agg #[.int .i64 y.1, .int .i64 y.2]] w fun e w' => e = .returned (.int .i64 (cmpC y x)) ∧ BelD w.heap.size w w' := by
  go_enter Tryz.func46, Tryz.ntmps46
  go_wp2_with fail
  refine (cmpC_laid y x _).mono ?_
  rintro e w1 ⟨rfl, hb1⟩
  go_wp2_with fail
  go_ret
  exact ⟨rfl, (by repeat' (first | with_reducible exact BelD.refl _ _ | with_reducible assumption | with_reducible apply BelD.drew | with_reducible apply BelD.drewN | with_reducible apply BelD.alloc | (with_reducible refine BelD.trans ?_ (BelD.mono (by assumption) ?_)) | (simp; done) | (simp; omega) | omega | with_reducible apply le_size_alloc | with_reducible apply le_size_drewN | with_reducible apply le_size_drew | with_reducible refine Nat.le_trans ?_ (BelD.size (by assumption))))⟩
end FreeD
theorem compareC_any (x y : C2) (w : World) :
    Calls Tryz.prog 44 #[.agg #[.int .i64 x.1, .int .i64 x.2], .agg #[.int .i64 y.1, .int .i64 y.2]] w fun e w' => e = .returned (.int .i64 (cmpC x y)) ∧ Below w.heap.size w w' :=
  (FreeD.cmpC_laid x y w).mono fun e w' ⟨h, hb⟩ => ⟨h, hb.b⟩

def canRho : Go.Shelf.Ren where
  f := fun n => if n = 6 then 45 else if n = 14 then 70 else if n = 15 then 71 else if n = 20 then 88 else if n = 21 then 89 else if n = 22 then 90 else if n = 23 then 91 else if n = 24 then 92 else if n = 25 then 93 else if n = 26 then 94 else if n = 27 then 95 else if n = 28 then 96 else if n = 29 then 97 else if n = 46 then 108 else if n = 47 then 109 else if n = 48 then 110 else if n = 49 then 111 else if n = 50 then 112 else if n = 57 then 131 else n
  t := fun n => if n = 0 then 0 else if n = 3 then 3 else if n = 4 then 4 else if n = 5 then 5 else if n = 9 then 9 else if n = 22 then 75 else if n = 24 then 73 else if n = 25 then 77 else if n = 39 then 99 else if n = 45 then 133 else if n = 46 then 134 else if n = 50 then 125 else if n = 53 then 140 else if n = 55 then 38 else if n = 66 then 150 else if n = 70 then 154 else if n = 76 then 168 else if n = 77 then 169 else n
  g := fun n => n
theorem canLays : SlLaysF0.n6 Tryz.prog canRho where
  mixed := by kernel_rfl
  f6 := ⟨Tryz.f45.name, by kernel_rfl, by kernel_rfl⟩
  f14 := ⟨Tryz.f70.name, by kernel_rfl, by kernel_rfl⟩
  f15 := by kernel_rfl
  f20 := ⟨Tryz.f88.name, by kernel_rfl, by kernel_rfl⟩
  f21 := ⟨Tryz.f89.name, by kernel_rfl, by kernel_rfl⟩
  f22 := ⟨Tryz.f90.name, by kernel_rfl, by kernel_rfl⟩
  f23 := ⟨Tryz.f91.name, by kernel_rfl, by kernel_rfl⟩
  f24 := ⟨Tryz.f92.name, by kernel_rfl, by kernel_rfl⟩
  f25 := ⟨Tryz.f93.name, by kernel_rfl, by kernel_rfl⟩
  f26 := ⟨Tryz.f94.name, by kernel_rfl, by kernel_rfl⟩
  f27 := ⟨Tryz.f95.name, by kernel_rfl, by kernel_rfl⟩
  f28 := by kernel_rfl
  f29 := by kernel_rfl
  f46 := ⟨Tryz.f108.name, by kernel_rfl, by kernel_rfl⟩
  f47 := by kernel_rfl
  f48 := by kernel_rfl
  f49 := ⟨Tryz.f111.name, by kernel_rfl, by kernel_rfl⟩
  f50 := ⟨Tryz.f112.name, by kernel_rfl, by kernel_rfl⟩
  f57 := ⟨Tryz.f131.name, by kernel_rfl, by kernel_rfl⟩
  t0 := by kernel_rfl
  a0 := fun _ => by kernel_rfl
  z0 := fun _ => by kernel_rfl
  v0 := fun _ => by kernel_rfl
  t3 := by kernel_rfl
  a3 := fun _ => by kernel_rfl
  z3 := fun _ => by kernel_rfl
  v3 := fun _ => by kernel_rfl
  t4 := by kernel_rfl
  a4 := fun _ => by kernel_rfl
  z4 := fun _ => by kernel_rfl
  v4 := fun _ => by kernel_rfl
  t5 := by kernel_rfl
  a5 := fun _ => by kernel_rfl
  z5 := fun _ => by kernel_rfl
  v5 := fun _ => by kernel_rfl
  t9 := by kernel_rfl
  a9 := fun _ => by kernel_rfl
  z9 := fun _ => by kernel_rfl
  v9 := fun _ => by kernel_rfl
  t22 := by kernel_rfl
  a22 := fun _ => by kernel_rfl
  z22 := fun _ => by kernel_rfl
  v22 := fun _ => by kernel_rfl
  t25 := by kernel_rfl
  a25 := fun _ => by kernel_rfl
  z25 := fun _ => by kernel_rfl
  v25 := fun _ => by kernel_rfl
  t39 := by kernel_rfl
  a39 := fun _ => by kernel_rfl
  z39 := fun _ => by kernel_rfl
  v39 := fun _ => by kernel_rfl
  t45 := by kernel_rfl
  a45 := fun _ => by kernel_rfl
  z45 := fun _ => by kernel_rfl
  v45 := fun _ => by kernel_rfl
  t46 := by kernel_rfl
  a46 := fun _ => by kernel_rfl
  z46 := fun _ => by kernel_rfl
  v46 := fun _ => by kernel_rfl
  t50 := by kernel_rfl
  a50 := fun _ => by kernel_rfl
  z50 := fun _ => by kernel_rfl
  v50 := fun _ => by kernel_rfl
  t53 := by kernel_rfl
  a53 := fun _ => by kernel_rfl
  z53 := fun _ => by kernel_rfl
  v53 := fun _ => by kernel_rfl
  t55 := by kernel_rfl
  a55 := fun _ => by kernel_rfl
  z55 := fun _ => by kernel_rfl
  v55 := fun _ => by kernel_rfl
  t66 := by kernel_rfl
  a66 := fun _ => by kernel_rfl
  z66 := fun _ => by kernel_rfl
  v66 := fun _ => by kernel_rfl
  t70 := by kernel_rfl
  a70 := fun _ => by kernel_rfl
  z70 := fun _ => by kernel_rfl
  v70 := fun _ => by kernel_rfl
  t76 := by kernel_rfl
  a76 := fun _ => by kernel_rfl
  z76 := fun _ => by kernel_rfl
  v76 := fun _ => by kernel_rfl
  t77 := by kernel_rfl
  a77 := fun _ => by kernel_rfl
  z77 := fun _ => by kernel_rfl
  v77 := fun _ => by kernel_rfl

theorem cmpC_lt (x y : C2) : cmpC y x < 0 ↔ ltC x y = true := by
  unfold cmpC or2 cmpI ltC
  rw [decide_eq_true_eq]
  (repeat' split) <;> omega
theorem cmpC_gt (x y : C2) : 0 < cmpC x y ↔ ltC x y = true := by
  unfold cmpC or2 cmpI ltC
  rw [decide_eq_true_eq]
  (repeat' split) <;> omega
theorem ltOf_cmpC : Go.Proofs.ltOf (fun x y => cmpC y x) = ltC := by
  funext x y
  unfold Go.Proofs.ltOf
  show decide (cmpC y x < 0) = _
  have := cmpC_lt x y
  cases h : ltC x y with
  | true => rw [h] at this; exact decide_eq_true (this.2 rfl)
  | false => rw [h] at this; exact decide_eq_false (by simp at this; omega)
theorem cmpC_lays (blk off size : Nat) (w : World) : Go.Proofs.CmpLays Tryz.prog 46 #[] canE.enc 2 (fun x y => cmpC y x) blk off size w := fun m os dk _ x y =>
  (FreeD.less_laid x y _).mono fun e w' ⟨he, hb⟩ => ⟨he, hb.laid⟩
theorem sortF_any (blk off cap : Nat) (l : List C2) (w : World) (hH : HoldsK canE.enc 2 w blk off l.toArray) (hblk : blk < w.heap.size) (hsz : l.length < 4611686018427387904) :
    Calls Tryz.prog 45 #[.slice (some ⟨blk, off, none⟩) l.length cap, .func (.func 46) #[] #[]] w fun e w' =>
      e = .returned (.tuple #[]) ∧ ∃ n os, w' = sortWorldK canE.enc 2 w blk off n (srtC l).toArray os := by
  have h := Go.Proofs.AnyQ.slices_SortFunc_total canLays 2 (fun _ => by kernel_rfl) (fun _ => by kernel_rfl) canE.enc (fun _ => rfl) canE.hone (fun x y => cmpC y x) (by rw [ltOf_cmpC]; exact swoC) 46 #[] blk off cap l.toArray w
    (enters_of Tryz.func46 (by kernel_rfl) rfl) (cmpC_lays blk off _ w) hH hblk (by simpa using hsz) (by rw [ltOf_cmpC]; exact totC)
  rw [ltOf_cmpC] at h
  exact h
theorem sortF_none (p : Option Addr) (cap : Nat) (v : Value) (w : World) : Calls Tryz.prog 45 #[.slice p 0 cap, v] w fun e w' => e = .returned (.tuple #[]) ∧ w' = w :=
  Go.Proofs.AnyF.slices_SortFunc_none canLays p cap v w

theorem flatK_map (l : List C2) : flatK canE.enc 2 l.toArray = (canE.flat l).toArray := by
  apply Array.ext
  · simp [canE.flat_length, show canE.sz = 2 from rfl]
  · intro i h1 h2
    have hi : i < l.length * 2 := by simpa using h1
    have hk : i / 2 < l.length := by omega
    have h3 := canE.flat_at (l := l) (k := i / 2) (j := i % 2) (x := l[i / 2]) (u := (canE.enc l[i / 2])[i % 2]'(by rw [canE.hlen]; show i % 2 < 2; omega)) (List.getElem?_eq_getElem hk) (List.getElem?_eq_getElem _)
    rw [show i / 2 * canE.sz + i % 2 = i from by show i / 2 * 2 + i % 2 = i; omega] at h3
    have h4 : (flatK canE.enc 2 l.toArray)[i]? = some ((canE.enc l[i / 2])[i % 2]'(by rw [canE.hlen]; show i % 2 < 2; omega)) := by
      have hm : i % 2 < (canE.enc l[i / 2]).length := by rw [canE.hlen]; show i % 2 < 2; omega
      simp only [flatK]
      rw [Array.getElem?_map, Array.getElem?_range, if_pos (by simpa using hi)]
      simp only [Option.map_some]
      rw [getElem!_pos l.toArray (i / 2) (by simpa using hk)]
      simp only [List.getElem_toArray]
      rw [getElem!_pos (canE.enc l[i / 2]) (i % 2) hm]
    rw [Array.getElem?_eq_getElem h1] at h4
    have h5 := Option.some.inj h4
    rw [h5]
    obtain ⟨_, h6⟩ := List.getElem?_eq_some_iff.1 h3
    simp [h6]
theorem holdsK_own {w : World} {base c g : Nat} {sp} {l : List C2} (h : OwnR canE w base (.slice (some ⟨g, 0, sp⟩) l.length c) l) (hp : 0 < l.length) :
    sp = none ∧ base ≤ g ∧ g < w.heap.size ∧ HoldsK canE.enc 2 w g 0 l.toArray ∧
    ∀ n os, OwnR canE (sortWorldK canE.enc 2 w g 0 n (srtC l).toArray os) base (.slice (some ⟨g, 0, none⟩) (srtC l).length c) (srtC l) ∧ w.grownBy (sortWorldK canE.enc 2 w g 0 n (srtC l).toArray os) (some g) := by
  obtain ⟨hl, ⟨e, hn⟩ | ⟨g', cap, cur, e, hg, hb, h1, h2, h3, h4⟩⟩ := h
  · omega
  · injection e with e e1 e2
    injection e with e
    injection e with e3 e4 e5
    subst e3 e2
    have hgl : g < w.heap.size := (Array.getElem?_eq_some_iff.1 hb).1
    refine ⟨e5, hg, hgl, ?_, fun n os => ⟨?_, ?_⟩⟩
    · unfold HoldsK
      rw [flatK_map]
      intro j hj
      have hj' : j < l.length * 2 := by simpa [canE.flat_length, show canE.sz = 2 from rfl] using hj
      refine ⟨?_, by simp [World.frozen?, hb]⟩
      have h5 : (cur.toList.take (l.length * canE.sz))[j]? = (canE.flat l)[j]? := by rw [h4]
      rw [List.getElem?_take_of_lt (show j < l.length * canE.sz from hj')] at h5
      simp only [World.cell?, hb, Nat.zero_add]
      simp only [Option.isSome_none, Bool.false_eq_true, if_false]
      rw [← Array.getElem?_toList, h5]
      have hj2 : j < (canE.flat l).length := by simpa using hj
      rw [getElem!_pos (canE.flat l).toArray j hj, List.getElem?_eq_getElem hj2]
      simp
    · refine ⟨canE.flat_length _, .inr ⟨g, c, putCells id 0 (canE.flat (srtC l)).toArray cur, rfl, hg, ?_, by rw [srtC_len]; exact h1, h2, by simp [putCells, h3], ?_⟩⟩
      · unfold sortWorldK putRowK
        rw [heap_grow_old _ _ (by simpa [putRow, mapBlock, Sort.ahead] using hgl), flatK_map]
        simp [putRow, mapBlock, Sort.ahead, Array.getElem?_modify, hb, onCells]
      · have hle : (canE.flat (srtC l)).length ≤ cur.size := by rw [canE.flat_length, srtC_len, h3]; exact Nat.mul_le_mul_right _ h1
        rw [show (srtC l).length * canE.sz = (canE.flat (srtC l)).length from (canE.flat_length _).symm]
        apply List.ext_getElem?
        intro j
        by_cases hj : j < (canE.flat (srtC l)).length
        · rw [List.getElem?_take_of_lt hj, Array.getElem?_toList]
          simp [putCells, hj, show j < cur.size by omega]
        · rw [List.getElem?_take_eq_none (by omega), List.getElem?_eq_none (by omega)]
    · unfold sortWorldK putRowK
      refine ⟨rfl, rfl, rfl, by simp [putRow, mapBlock, Sort.ahead, grow], fun k hk hne => ?_⟩
      rw [heap_grow_old _ _ (by simpa [putRow, mapBlock, Sort.ahead] using hk)]
      have : g ≠ k := fun e => hne (by rw [e])
      simp [putRow, mapBlock, Sort.ahead, Array.getElem?_modify, this]
/-- slices.SortFunc of a slice that the call owns. -/
theorem sortF_own (base : Nat) (A : Option Addr) (c : Nat) (l : List C2) (w : World) (h : OwnR canE w base (.slice A l.length c) l) (hl : l.length ≤ 100000) :
    Calls Tryz.prog 45 #[.slice A l.length c, .func (.func 46) #[] #[]] w fun e w' =>
      e = .returned (.tuple #[]) ∧ OwnR canE w' base (.slice A (srtC l).length c) (srtC l) ∧ Below base w w' := by
  rcases Nat.eq_zero_or_pos l.length with h0 | hp
  · have : l = [] := List.eq_nil_of_length_eq_zero h0
    subst this
    refine (sortF_none A c _ w).mono ?_
    rintro e w' ⟨rfl, rfl⟩
    exact ⟨rfl, by simpa [srtC] using h, Below.refl _ _⟩
  · obtain ⟨b, off, hA, _⟩ := h.sr.2 (SR.len_pos hp)
    subst hA
    have h0 : off = 0 := by
      obtain ⟨_, ⟨e, hn⟩ | ⟨g', cap, cur, e, _⟩⟩ := h
      · cases e
      · injection e with e; injection e with e; injection e
    subst h0
    obtain ⟨_, hg, hgl, hH, hX⟩ := holdsK_own h hp
    refine (sortF_any b 0 c l w hH hgl (by omega)).mono ?_
    rintro e w' ⟨rfl, n, os, rfl⟩
    obtain ⟨h1, h2⟩ := hX n os
    exact ⟨rfl, h1, (Below.refl _ _).grown h2 (by omega) (fun j hj => by cases hj; exact hg)⟩

end Go.Proofs.YtmbpjafiinfkkaaGreatDoor
