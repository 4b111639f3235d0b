/- Contracts of the package headgatekit. -/
import Derived.Test.YtmbpjafiinfkkaaGreatDoorMem
namespace Go.Proofs.YtmbpjafiinfkkaaGreatDoor
set_option linter.unusedSimpArgs false
set_option linter.unusedVariables false
open Go.RowKit Go.Maps

set_option maxHeartbeats 400000 in
theorem Mod_any (n m : Int) (w : World) (hm : 1 ≤ m) (hm2 : m ≤ 1152921504606846976) :
    Calls Tryz.prog 36 #[.int .i64 n, .int .i64 m] w fun e w' => e = .returned (.int .i64 (n % m)) ∧ w = w' := by
  have hb : -m < n.tmod m ∧ n.tmod m < m := by
    have h1 := Int.natAbs_tmod n m
    have h2 : (n.natAbs % m.natAbs) < m.natAbs := Nat.mod_lt _ (by omega)
    omega
  have hE : Hid (n % m = if n.tmod m < 0 then n.tmod m + m else n.tmod m) := by
    have := Int.tmod_eq_emod (a := n) (b := m)
    have h0 := Int.emod_nonneg n (show m ≠ 0 by omega)
    have h1 := Int.emod_lt_of_pos n (show 0 < m by omega)
    show n % m = _
    rw [this]
    split <;> split <;> omega
  obtain ⟨hb1, hb2⟩ := hb
  go_enter Tryz.func36, Tryz.ntmps36
  go_wp2
  · have hlt : n.tmod m < 0 := by assumption
    go_ret
    exact ⟨ret_int (by rw [hE.out, if_pos hlt]), rfl⟩
  · have hge : 0 ≤ n.tmod m := by assumption
    go_ret
    exact ⟨ret_int (by rw [hE.out, if_neg (by omega)]), rfl⟩

end Go.Proofs.YtmbpjafiinfkkaaGreatDoor
