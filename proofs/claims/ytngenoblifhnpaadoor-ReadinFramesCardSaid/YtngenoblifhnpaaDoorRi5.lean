/- Contracts of package readin: after (the events that free nothing). -/
import Derived.Test.YtngenoblifhnpaaDoorRi4
import Derived.Deep.RegionHeld3
namespace Go.Proofs.YtngenoblifhnpaaDoor
open Go.RowKit Go.Maps

/-- What after hands back. -/
def AftPost (R : RI × List Int × Int) (w : World) (e : Ending) (w' : World) : Prop :=
  ∃ A c, e = .returned (.tuple #[.agg #[.int .i64 R.1.1, .int .i64 R.1.2.1, .int .i64 R.1.2.2], .slice A R.2.1.length c, .int .i64 R.2.2]) ∧ IWn w' w.heap.size A c R.2.1 ∧ Below w.heap.size w w'

set_option maxRecDepth 100000 in
set_option maxHeartbeats 4000000 in
theorem after_few (s f g e n : Int) (w : World) (he : e = 1 ∨ e = 2 ∨ e = 3) :
    Calls Tryd.prog 37 #[.agg #[.int .i64 s, .int .i64 f, .int .i64 g], .int .i64 e, .int .i64 n] w (AftPost (aftR (s, f, g) e n) w) := by
  rcases he with rfl | rfl | rfl
  · have HF : Hid (aftR (s, f, g) 1 n = ((2, n, g), [], -1)) := by show _ = _; simp [aftR]
    go_enter Tryd.func37, Tryd.ntmps37
    go_wp2_with fail
    refine bodyPost_ret (v := .tuple #[.agg #[.int .i64 2, .int .i64 n, .int .i64 g], .slice none 0 0, .int .i64 (-1)]) (by simp [results, Tryd.results37, go_sem]) rfl ?_
    unfold AftPost
    rw [HF.out]
    exact ⟨none, 0, rfl, IWn.nil, (by repeat' (first | with_reducible exact Below.refl _ _ | with_reducible assumption | with_reducible apply Below.drew | with_reducible apply below_drewN | with_reducible apply Below.alloc | with_reducible apply Below.setCell | (with_reducible refine Below.trans ?_ (Below.mono (by assumption) ?_)) | (simp; done) | (simp; omega) | omega | with_reducible apply le_size_alloc | with_reducible apply le_size_drewN | with_reducible apply le_size_drew | with_reducible apply le_size_setCell | refine Nat.le_trans ?_ (Below.size (by assumption))))⟩
  · have HF : Hid (aftR (s, f, g) 2 n = ((4, f, g), [], -1)) := by show _ = _; simp [aftR]
    go_enter Tryd.func37, Tryd.ntmps37
    go_wp2_with fail
    refine bodyPost_ret (v := .tuple #[.agg #[.int .i64 4, .int .i64 f, .int .i64 g], .slice none 0 0, .int .i64 (-1)]) (by simp [results, Tryd.results37, go_sem]) rfl ?_
    unfold AftPost
    rw [HF.out]
    exact ⟨none, 0, rfl, IWn.nil, (by repeat' (first | with_reducible exact Below.refl _ _ | with_reducible assumption | with_reducible apply Below.drew | with_reducible apply below_drewN | with_reducible apply Below.alloc | with_reducible apply Below.setCell | (with_reducible refine Below.trans ?_ (Below.mono (by assumption) ?_)) | (simp; done) | (simp; omega) | omega | with_reducible apply le_size_alloc | with_reducible apply le_size_drewN | with_reducible apply le_size_drew | with_reducible apply le_size_setCell | refine Nat.le_trans ?_ (Below.size (by assumption))))⟩
  · have HF : Hid (aftR (s, f, g) 3 n = ((3, f, g), [], -1)) := by show _ = _; simp [aftR]
    go_enter Tryd.func37, Tryd.ntmps37
    go_wp2_with fail
    refine bodyPost_ret (v := .tuple #[.agg #[.int .i64 3, .int .i64 f, .int .i64 g], .slice none 0 0, .int .i64 (-1)]) (by simp [results, Tryd.results37, go_sem]) rfl ?_
    unfold AftPost
    rw [HF.out]
    exact ⟨none, 0, rfl, IWn.nil, (by repeat' (first | with_reducible exact Below.refl _ _ | with_reducible assumption | with_reducible apply Below.drew | with_reducible apply below_drewN | with_reducible apply Below.alloc | with_reducible apply Below.setCell | (with_reducible refine Below.trans ?_ (Below.mono (by assumption) ?_)) | (simp; done) | (simp; omega) | omega | with_reducible apply le_size_alloc | with_reducible apply le_size_drewN | with_reducible apply le_size_drew | with_reducible apply le_size_setCell | refine Nat.le_trans ?_ (Below.size (by assumption))))⟩
set_option maxRecDepth 100000 in
set_option maxHeartbeats 4000000 in
theorem after_orphan (f g n : Int) (w : World) :
    Calls Tryd.prog 37 #[.agg #[.int .i64 3, .int .i64 f, .int .i64 g], .int .i64 6, .int .i64 n] w (AftPost (aftR (3, f, g) 6 n) w) := by
  have HF : Hid (aftR (3, f, g) 6 n = ((6, f, g), [], -1)) := by show _ = _; simp [aftR]
  go_enter Tryd.func37, Tryd.ntmps37
  go_wp2_with fail
  refine bodyPost_ret (v := .tuple #[.agg #[.int .i64 6, .int .i64 f, .int .i64 g], .slice none 0 0, .int .i64 (-1)]) (by simp [results, Tryd.results37, go_sem]) rfl ?_
  unfold AftPost
  rw [HF.out]
  exact ⟨none, 0, rfl, IWn.nil, (by repeat' (first | with_reducible exact Below.refl _ _ | with_reducible assumption | with_reducible apply Below.drew | with_reducible apply below_drewN | with_reducible apply Below.alloc | with_reducible apply Below.setCell | (with_reducible refine Below.trans ?_ (Below.mono (by assumption) ?_)) | (simp; done) | (simp; omega) | omega | with_reducible apply le_size_alloc | with_reducible apply le_size_drewN | with_reducible apply le_size_drew | with_reducible apply le_size_setCell | refine Nat.le_trans ?_ (Below.size (by assumption))))⟩
end Go.Proofs.YtngenoblifhnpaaDoor
