/- rmap.compare, in the world's very words (it draws and makes blocks alone). The walk of compare's region was printed by handregion.chain. -/
import Derived.Test.YtbeddhamnefpiaaRmS
import Derived.Test.YtbeddhamnefpiaaFreeD
namespace Go.Proofs.Ytbeddhamnefpiaa
set_option linter.unusedSimpArgs false
set_option linter.unusedVariables false
open Go.RowKit Go.Maps

def cmpI (a b : Int) : Int := if a < b then -1 else if b < a then 1 else 0
theorem isNaN_any (a : Int) (w : World) : Calls Try.prog 67 #[.int .i64 a] w fun e w' => e = .returned (.bool false) ∧ w = w' := by
  go_enter Try.func67, Try.ntmps67
  go_wp2
  go_ret
  exact ⟨by simp, rfl⟩
theorem cmpC_any (a b : Int) (w : World) : Calls Try.prog 61 #[.int .i64 a, .int .i64 b] w fun e w' => e = .returned (.int .i64 (cmpI a b)) ∧ w = w' := by
  go_enter Try.func61, Try.ntmps61
  go_wp2_with (go_at_call 67; with_reducible refine (isNaN_any _ _).mono ?_; rintro e w' ⟨rfl, rfl⟩)
  all_goals (go_ret; refine ⟨ret_int ?_, rfl⟩; unfold cmpI; (repeat' split) <;> first | rfl | (exfalso; omega))
/-- The first number that is not 0. -/
def orI (a b c : Int) : Int := if a ≠ 0 then a else if b ≠ 0 then b else c
theorem or_any (g : Nat) (a b c : Int) (w : World) (h : Blk w g 3 #[.int .i64 a, .int .i64 b, .int .i64 c]) :
    Calls Try.prog 60 #[.slice (some ⟨g, 0, none⟩) 3 3] w fun e w' => e = .returned (.int .i64 (orI a b c)) ∧ w = w' := by
  have c0 := h.cell_ 0
  have c1 := h.cell_ 1
  have c2 := h.cell_ 2
  have hl := h.lt
  simp at c0 c1 c2
  by_cases ha : a = 0
  · subst ha
    by_cases hb : b = 0
    · subst hb
      by_cases hc : c = 0
      · subst hc
        go_enter Try.func60, Try.ntmps60
        go_wp2
        refine wp_loop_rounds 4 ?_
        rw [rounds_succ]
        go_wp2
        rw [rounds_succ]
        go_wp2
        rw [rounds_succ]
        go_wp2
        rw [rounds_succ]
        go_wp2
        go_ret
        exact ⟨rfl, rfl⟩
      · have hcb : (c != 0) = true := by simpa using hc
        go_enter Try.func60, Try.ntmps60
        go_wp2
        refine wp_loop_rounds 3 ?_
        rw [rounds_succ]
        go_wp2
        rw [rounds_succ]
        go_wp2
        rw [rounds_succ]
        go_wp2
        go_ret
        exact ⟨ret_int (by simp [orI]), rfl⟩
    · have hbb : (b != 0) = true := by simpa using hb
      go_enter Try.func60, Try.ntmps60
      go_wp2
      refine wp_loop_rounds 2 ?_
      rw [rounds_succ]
      go_wp2
      rw [rounds_succ]
      go_wp2
      go_ret
      exact ⟨ret_int (by simp [orI, hb]), rfl⟩
  · have hab : (a != 0) = true := by simpa using ha
    go_enter Try.func60, Try.ntmps60
    go_wp2
    refine wp_loop_rounds 1 ?_
    rw [rounds_succ]
    go_wp2
    go_ret
    exact ⟨ret_int (by simp [orI, ha]), rfl⟩

/-- compare. -/
def cmpM (x y : M3) : Int := orI (cmpI x.1 y.1) (cmpI x.2.1 y.2.1) (cmpI x.2.2 y.2.2)
namespace FreeD
set_option maxRecDepth 100000 in
set_option maxHeartbeats 4000000 in
theorem compare_laid (x y : M3) (w : World) :
    Calls Try.prog 44 #[.agg #[.int .i64 x.1, .int .i64 x.2.1, .int .i64 x.2.2], .agg #[.int .i64 y.1, .int .i64 y.2.1, .int .i64 y.2.2]] w fun e w' => e = .returned (.int .i64 (cmpM x y)) ∧ BelD w.heap.size w w' := by
  go_enter Try.func44, Try.ntmps44
  go_wp2
  obtain ⟨V, hV⟩ : ∃ V, (w.alloc (.cells #[.int .i64 x.1, .int .i64 x.2.1, .int .i64 x.2.2] 59)).alloc (.cells #[.int .i64 y.1, .int .i64 y.2.1, .int .i64 y.2.2] 59) = V := ⟨_, rfl⟩
  have BV : BelD w.heap.size w V := by rw [← hV]; exact ((BelD.refl _ w).alloc (Nat.le_refl _) _).alloc (by simp) _
  have kx : Blk V w.heap.size 59 #[.int .i64 x.1, .int .i64 x.2.1, .int .i64 x.2.2] := by rw [← hV]; exact (by repeat' (first | with_reducible assumption | (with_reducible refine Blk.new_ ?_ ?_ <;> first | (simp; done) | rfl) | with_reducible apply Blk.drew_ | with_reducible apply Blk.drewN_ | with_reducible apply Blk.alloc_ | with_reducible refine Blk.far_ ?_ ?_ _ | (with_reducible refine Blk.below_ ?_ (by assumption) ?_) | (simp; done) | (simp; omega) | omega | with_reducible apply le_size_alloc | with_reducible apply lt_size_alloc | with_reducible apply le_size_drewN | with_reducible apply le_size_drew | with_reducible apply le_size_setCell | refine Nat.lt_of_lt_of_le ?_ (Below.size (by assumption)) | refine Nat.le_trans ?_ (Below.size (by assumption))))
  have ky : Blk V (w.heap.size + 1) 59 #[.int .i64 y.1, .int .i64 y.2.1, .int .i64 y.2.2] := by rw [← hV]; exact (by repeat' (first | with_reducible assumption | (with_reducible refine Blk.new_ ?_ ?_ <;> first | (simp; done) | rfl) | with_reducible apply Blk.drew_ | with_reducible apply Blk.drewN_ | with_reducible apply Blk.alloc_ | with_reducible refine Blk.far_ ?_ ?_ _ | (with_reducible refine Blk.below_ ?_ (by assumption) ?_) | (simp; done) | (simp; omega) | omega | with_reducible apply le_size_alloc | with_reducible apply lt_size_alloc | with_reducible apply le_size_drewN | with_reducible apply le_size_drew | with_reducible apply le_size_setCell | refine Nat.lt_of_lt_of_le ?_ (Below.size (by assumption)) | refine Nat.le_trans ?_ (Below.size (by assumption))))
  have hsz : V.heap.size = w.heap.size + 2 := by rw [← hV]; simp
  rw [hV]
  clear hV
  have z0 : ∀ W : World, BelD V.heap.size V W → W.cell? ⟨w.heap.size, 0, none⟩ = some (.int .i64 x.1) := fun W h => by simpa using (kx.below_ h.b kx.lt).cell_ 0
  have z1 : ∀ W : World, BelD V.heap.size V W → W.cell? ⟨w.heap.size, 1, none⟩ = some (.int .i64 x.2.1) := fun W h => by simpa using (kx.below_ h.b kx.lt).cell_ 1
  have z2 : ∀ W : World, BelD V.heap.size V W → W.cell? ⟨w.heap.size, 2, none⟩ = some (.int .i64 x.2.2) := fun W h => by simpa using (kx.below_ h.b kx.lt).cell_ 2
  have y0 : ∀ W : World, BelD V.heap.size V W → W.cell? ⟨w.heap.size + 1, 0, none⟩ = some (.int .i64 y.1) := fun W h => by simpa using (ky.below_ h.b ky.lt).cell_ 0
  have y1 : ∀ W : World, BelD V.heap.size V W → W.cell? ⟨w.heap.size + 1, 1, none⟩ = some (.int .i64 y.2.1) := fun W h => by simpa using (ky.below_ h.b ky.lt).cell_ 1
  have y2 : ∀ W : World, BelD V.heap.size V W → W.cell? ⟨w.heap.size + 1, 2, none⟩ = some (.int .i64 y.2.2) := fun W h => by simpa using (ky.below_ h.b ky.lt).cell_ 2
  refine wp_region_chain [.is ?fq0, .is ?fq1, .is ?fq2, .is ?fq3, .is (.int .i64 (cmpI x.1 y.1)), .is ?fq5, .is ?fq6, .is ?fq7, .is ?fq8, .is ?fq9, .is ?fq10, .is (.int .i64 (cmpI x.2.1 y.2.1)), .is ?fq12, .is ?fq13, .is ?fq14, .is ?fq15, .is ?fq16, .is ?fq17, .is (.int .i64 (cmpI x.2.2 y.2.2)), .has (LitS 3 3 [.int .i64 (cmpI x.1 y.1), .int .i64 (cmpI x.2.1 y.2.1), .int .i64 (cmpI x.2.2 y.2.2)]), .is (.int .i64 (orI (cmpI x.1 y.1) (cmpI x.2.1 y.2.1) (cmpI x.2.2 y.2.2))), .is ?fq21] (by kernel_rfl) (by kernel_rfl) (by kernel_rfl) (lasts_is (lasts_is (lasts_is (lasts_is (lasts_is (lasts_is (lasts_is (lasts_is (lasts_is (lasts_is (lasts_is (lasts_is (lasts_is (lasts_is (lasts_is (lasts_is (lasts_is (lasts_is (lasts_is (lasts_has (LitS.lasts 3 3 [.int .i64 (cmpI x.1 y.1), .int .i64 (cmpI x.2.1 y.2.1), .int .i64 (cmpI x.2.2 y.2.2)]) (lasts_is (lasts_is lasts_nil)))))))))))))))))))))) (fun W0 hb0 hz0 => ?_)
  rotate_left 17
  refine chain_is (step_take (by rfl) ?yq0) ?rq0
  case yq0 =>
    intro w hbw hd
    clear hd
    go_simp
    first | done | with_reducible rfl
  (try simp only [Act.put, List.setIfInBounds_toArray, List.set_cons_zero, List.set_cons_succ, List.nil_append, List.cons_append])
  refine chain_is (step_take (by rfl) ?yq1) ?rq1
  case yq1 =>
    intro w hbw hd
    have q := z0 w (hb0.trans (hbw.mono hb0.size))
    clear hd
    go_simp
    first | done | with_reducible rfl
  (try simp only [Act.put, List.setIfInBounds_toArray, List.set_cons_zero, List.set_cons_succ, List.nil_append, List.cons_append])
  refine chain_is (step_take (by rfl) ?yq2) ?rq2
  case yq2 =>
    intro w hbw hd
    clear hd
    go_simp
    first | done | with_reducible rfl
  (try simp only [Act.put, List.setIfInBounds_toArray, List.set_cons_zero, List.set_cons_succ, List.nil_append, List.cons_append])
  refine chain_is (step_take (by rfl) ?yq3) ?rq3
  case yq3 =>
    intro w hbw hd
    have q := y0 w (hb0.trans (hbw.mono hb0.size))
    clear hd
    go_simp
    first | done | with_reducible rfl
  (try simp only [Act.put, List.setIfInBounds_toArray, List.set_cons_zero, List.set_cons_succ, List.nil_append, List.cons_append])
  refine chain_is ?sq4 ?rq4
  case sq4 =>
    intro w hbw hd K Q' hK
    clear hd
    go_simp
    refine (cmpC_any _ _ _).mono ?_
    rintro e x1 ⟨rfl, rfl⟩
    go_wp2_with fail
    refine hK.out (.int .i64 (cmpI x.1 y.1)) _ _ ?_ ?_ rfl
    · (simp only [Act.put, List.setIfInBounds_toArray, List.set_cons_zero, List.set_cons_succ, List.nil_append, List.cons_append])
    · exact (by repeat' (first | with_reducible exact BelD.refl _ _ | with_reducible assumption | with_reducible apply BelD.drew | with_reducible apply BelD.drewN | with_reducible apply BelD.alloc | (with_reducible refine BelD.trans ?_ (BelD.mono (by assumption) ?_)) | (simp; done) | (simp; omega) | omega | with_reducible apply le_size_alloc | with_reducible apply le_size_drewN | with_reducible apply le_size_drew | with_reducible refine Nat.le_trans ?_ (BelD.size (by assumption))))
  (try simp only [Act.put, List.setIfInBounds_toArray, List.set_cons_zero, List.set_cons_succ, List.nil_append, List.cons_append])
  refine chain_is (step_take (by rfl) ?yq5) ?rq5
  case yq5 =>
    intro w hbw hd
    clear hd
    go_simp
    first | done | with_reducible rfl
  (try simp only [Act.put, List.setIfInBounds_toArray, List.set_cons_zero, List.set_cons_succ, List.nil_append, List.cons_append])
  refine chain_is (step_take (by rfl) ?yq6) ?rq6
  case yq6 =>
    intro w hbw hd
    clear hd
    go_simp
    first | done | with_reducible rfl
  (try simp only [Act.put, List.setIfInBounds_toArray, List.set_cons_zero, List.set_cons_succ, List.nil_append, List.cons_append])
  refine chain_is (step_take (by rfl) ?yq7) ?rq7
  case yq7 =>
    intro w hbw hd
    have q := z1 w (hb0.trans (hbw.mono hb0.size))
    clear hd
    go_simp
    first | done | with_reducible rfl
  (try simp only [Act.put, List.setIfInBounds_toArray, List.set_cons_zero, List.set_cons_succ, List.nil_append, List.cons_append])
  refine chain_is (step_take (by rfl) ?yq8) ?rq8
  case yq8 =>
    intro w hbw hd
    clear hd
    go_simp
    first | done | with_reducible rfl
  (try simp only [Act.put, List.setIfInBounds_toArray, List.set_cons_zero, List.set_cons_succ, List.nil_append, List.cons_append])
  refine chain_is (step_take (by rfl) ?yq9) ?rq9
  case yq9 =>
    intro w hbw hd
    clear hd
    go_simp
    first | done | with_reducible rfl
  (try simp only [Act.put, List.setIfInBounds_toArray, List.set_cons_zero, List.set_cons_succ, List.nil_append, List.cons_append])
  refine chain_is (step_take (by rfl) ?yq10) ?rq10
  case yq10 =>
    intro w hbw hd
    have q := y1 w (hb0.trans (hbw.mono hb0.size))
    clear hd
    go_simp
    first | done | with_reducible rfl
  (try simp only [Act.put, List.setIfInBounds_toArray, List.set_cons_zero, List.set_cons_succ, List.nil_append, List.cons_append])
  refine chain_is ?sq11 ?rq11
  case sq11 =>
    intro w hbw hd K Q' hK
    clear hd
    go_simp
    refine (cmpC_any _ _ _).mono ?_
    rintro e x1 ⟨rfl, rfl⟩
    go_wp2_with fail
    refine hK.out (.int .i64 (cmpI x.2.1 y.2.1)) _ _ ?_ ?_ rfl
    · (simp only [Act.put, List.setIfInBounds_toArray, List.set_cons_zero, List.set_cons_succ, List.nil_append, List.cons_append])
    · exact (by repeat' (first | with_reducible exact BelD.refl _ _ | with_reducible assumption | with_reducible apply BelD.drew | with_reducible apply BelD.drewN | with_reducible apply BelD.alloc | (with_reducible refine BelD.trans ?_ (BelD.mono (by assumption) ?_)) | (simp; done) | (simp; omega) | omega | with_reducible apply le_size_alloc | with_reducible apply le_size_drewN | with_reducible apply le_size_drew | with_reducible refine Nat.le_trans ?_ (BelD.size (by assumption))))
  (try simp only [Act.put, List.setIfInBounds_toArray, List.set_cons_zero, List.set_cons_succ, List.nil_append, List.cons_append])
  refine chain_is (step_take (by rfl) ?yq12) ?rq12
  case yq12 =>
    intro w hbw hd
    clear hd
    go_simp
    first | done | with_reducible rfl
  (try simp only [Act.put, List.setIfInBounds_toArray, List.set_cons_zero, List.set_cons_succ, List.nil_append, List.cons_append])
  refine chain_is (step_take (by rfl) ?yq13) ?rq13
  case yq13 =>
    intro w hbw hd
    clear hd
    go_simp
    first | done | with_reducible rfl
  (try simp only [Act.put, List.setIfInBounds_toArray, List.set_cons_zero, List.set_cons_succ, List.nil_append, List.cons_append])
  refine chain_is (step_take (by rfl) ?yq14) ?rq14
  case yq14 =>
    intro w hbw hd
    have q := z2 w (hb0.trans (hbw.mono hb0.size))
    clear hd
    go_simp
    first | done | with_reducible rfl
  (try simp only [Act.put, List.setIfInBounds_toArray, List.set_cons_zero, List.set_cons_succ, List.nil_append, List.cons_append])
  refine chain_is (step_take (by rfl) ?yq15) ?rq15
  case yq15 =>
    intro w hbw hd
    clear hd
    go_simp
    first | done | with_reducible rfl
  (try simp only [Act.put, List.setIfInBounds_toArray, List.set_cons_zero, List.set_cons_succ, List.nil_append, List.cons_append])
  refine chain_is (step_take (by rfl) ?yq16) ?rq16
  case yq16 =>
    intro w hbw hd
    clear hd
    go_simp
    first | done | with_reducible rfl
  (try simp only [Act.put, List.setIfInBounds_toArray, List.set_cons_zero, List.set_cons_succ, List.nil_append, List.cons_append])
  refine chain_is (step_take (by rfl) ?yq17) ?rq17
  case yq17 =>
    intro w hbw hd
    have q := y2 w (hb0.trans (hbw.mono hb0.size))
    clear hd
    go_simp
    first | done | with_reducible rfl
  (try simp only [Act.put, List.setIfInBounds_toArray, List.set_cons_zero, List.set_cons_succ, List.nil_append, List.cons_append])
  refine chain_is ?sq18 ?rq18
  case sq18 =>
    intro w hbw hd K Q' hK
    clear hd
    go_simp
    refine (cmpC_any _ _ _).mono ?_
    rintro e x1 ⟨rfl, rfl⟩
    go_wp2_with fail
    refine hK.out (.int .i64 (cmpI x.2.2 y.2.2)) _ _ ?_ ?_ rfl
    · (simp only [Act.put, List.setIfInBounds_toArray, List.set_cons_zero, List.set_cons_succ, List.nil_append, List.cons_append])
    · exact (by repeat' (first | with_reducible exact BelD.refl _ _ | with_reducible assumption | with_reducible apply BelD.drew | with_reducible apply BelD.drewN | with_reducible apply BelD.alloc | (with_reducible refine BelD.trans ?_ (BelD.mono (by assumption) ?_)) | (simp; done) | (simp; omega) | omega | with_reducible apply le_size_alloc | with_reducible apply le_size_drewN | with_reducible apply le_size_drew | with_reducible refine Nat.le_trans ?_ (BelD.size (by assumption))))
  (try simp only [Act.put, List.setIfInBounds_toArray, List.set_cons_zero, List.set_cons_succ, List.nil_append, List.cons_append])
  refine chain_has ?sq19 (fun vq19 => ?rq19)
  case sq19 =>
    intro w hbw hd K Q' hK
    clear hd
    go_simp
    go_wp2_with fail
    refine hK.out (.slice (some ⟨w.heap.size, 0, none⟩) 3 3) _ _ ?_ ?_ ?_
    · (simp only [Act.put, List.setIfInBounds_toArray, List.set_cons_zero, List.set_cons_succ, List.nil_append, List.cons_append])
    · exact (by repeat' (first | with_reducible exact BelD.refl _ _ | with_reducible assumption | with_reducible apply BelD.drew | with_reducible apply BelD.drewN | with_reducible apply BelD.alloc | (with_reducible refine BelD.trans ?_ (BelD.mono (by assumption) ?_)) | (simp; done) | (simp; omega) | omega | with_reducible apply le_size_alloc | with_reducible apply le_size_drewN | with_reducible apply le_size_drew | with_reducible refine Nat.le_trans ?_ (BelD.size (by assumption))))
    · exact ⟨_, rfl, Blk.new_ rfl rfl⟩
  (try simp only [Act.put, List.setIfInBounds_toArray, List.set_cons_zero, List.set_cons_succ, List.nil_append, List.cons_append])
  refine chain_is ?sq20 ?rq20
  case sq20 =>
    intro w hbw hd K Q' hK
    obtain ⟨g, rfl, kg⟩ : LitS 3 3 [.int .i64 (cmpI x.1 y.1), .int .i64 (cmpI x.2.1 y.2.1), .int .i64 (cmpI x.2.2 y.2.2)] _ w := hd 19 _ _ (by rfl) rfl rfl
    clear hd
    go_simp
    refine (or_any g _ _ _ _ kg).mono ?_
    rintro e x1 ⟨rfl, rfl⟩
    go_wp2_with fail
    refine hK.out (.int .i64 (orI (cmpI x.1 y.1) (cmpI x.2.1 y.2.1) (cmpI x.2.2 y.2.2))) _ _ ?_ ?_ rfl
    · (simp only [Act.put, List.setIfInBounds_toArray, List.set_cons_zero, List.set_cons_succ, List.nil_append, List.cons_append])
    · exact (by repeat' (first | with_reducible exact BelD.refl _ _ | with_reducible assumption | with_reducible apply BelD.drew | with_reducible apply BelD.drewN | with_reducible apply BelD.alloc | (with_reducible refine BelD.trans ?_ (BelD.mono (by assumption) ?_)) | (simp; done) | (simp; omega) | omega | with_reducible apply le_size_alloc | with_reducible apply le_size_drewN | with_reducible apply le_size_drew | with_reducible refine Nat.le_trans ?_ (BelD.size (by assumption))))
  (try simp only [Act.put, List.setIfInBounds_toArray, List.set_cons_zero, List.set_cons_succ, List.nil_append, List.cons_append])
  refine chain_is (step_take (by rfl) ?yq21) ?rq21
  case yq21 =>
    intro w hbw hd
    clear hd
    go_simp
    first | done | with_reducible rfl
  (try simp only [Act.put, List.setIfInBounds_toArray, List.set_cons_zero, List.set_cons_succ, List.nil_append, List.cons_append])
  refine chain_end (fun wz hbz hd => ?_)
  go_wp2_with fail
  go_ret
  exact ⟨rfl, BV.trans ((hb0.trans (hbz.mono hb0.size)).mono BV.size)⟩
end FreeD
end Go.Proofs.Ytbeddhamnefpiaa
