/- How long the results are. -/
import Derived.Test.YtbeddhamnefpiaaRL1
namespace Go.Proofs.Ytbeddhamnefpiaa
set_option linter.unusedSimpArgs false
set_option linter.unusedVariables false
open Go.RowKit Go.Maps

theorem ofM_len (l : List M3) (f : Int) : (ofM l f).1.length ≤ l.length := by
  unfold ofM
  split
  · simp
  · split
    · exact plsM_len l f
    · simp
theorem cnsM_len (l : List M3) : (cnsM l).1.length ≤ 256 := by
  unfold cnsM
  split
  · simp
  · simp
theorem addM_len (l : List M3) (f : Int) (p : Int × Int) : (addM l f p).1.length ≤ l.length + 1 := by
  unfold addM
  split
  · simp
  · split
    · split
      all_goals first | (simp; done) | exact Nat.le_of_eq (putM_len _ _)
    · simp
theorem remM_len (l : List M3) (p : Int × Int) : (remM l p).1.length ≤ l.length := by
  unfold remM
  split
  · simp
  · exact delM_len _ _
theorem movM_len (l : List M3) (p : Int × Int) (f : Int) : (movM l p f).1.length ≤ l.length + 1 := by
  unfold movM
  split
  · simp
  · split
    · split
      · simp
      · rename_i o _
        have := delM_len l (o, p)
        simp only [putM_len]
        omega
    · simp
theorem drpM_len (l : List M3) (f : Int) : (drpM l f).1.length ≤ l.length ∧ (drpM l f).2.1.length ≤ l.length := by
  unfold drpM
  split
  · simp
  · split
    · exact ⟨List.length_filter_le _ _, plsM_len l f⟩
    · simp
theorem extM_len (l : List M3) (n : Int) : (extM l n).1.length ≤ l.length ∧ (extM l n).2.1.length ≤ 256 := by
  unfold extM
  split
  · simp
  · split
    · exact ⟨keptM_len l n, freP_len l n 256⟩
    · simp
theorem addsF_len (l : List M3) (n c : Int) : (addsF l n c).length ≤ l.length := by
  unfold addsF
  rw [List.length_map]
  exact List.length_filter_le _ _
theorem frkM_len (l : List M3) (n c : Int) : (frkM l n c).1.length ≤ 2 * l.length := by
  unfold frkM
  split
  · simp
  · split
    · split
      · simp
      · rw [frkL_eq, foldl_put_len]
        have := addsF_len l n c
        omega
    · simp
end Go.Proofs.Ytbeddhamnefpiaa
