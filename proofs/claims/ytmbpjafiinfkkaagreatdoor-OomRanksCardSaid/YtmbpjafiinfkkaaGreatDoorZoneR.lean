/- Contracts of the reference of zone. -/
import Derived.Test.YtmbpjafiinfkkaaGreatDoorZone3
namespace Go.Proofs.YtmbpjafiinfkkaaGreatDoor
set_option linter.unusedSimpArgs false
set_option linter.unusedVariables false
open Go.RowKit Go.Maps

theorem ret_pair_int {a b c : Int} (h : a = b) : Ending.returned (.tuple #[.int .i64 a, .int .i64 c]) = .returned (.tuple #[.int .i64 b, .int .i64 c]) := by rw [h]

theorem flo_bd {mn lo hi c : Int} (h1 : 0 ≤ mn) (h2 : mn < lo) (h3 : lo < hi) (h4 : hi ≤ 256) : 0 ≤ flo mn hi c ∧ flo mn hi c ≤ 256 := by
  unfold flo; (repeat' split) <;> omega
theorem zchd_n {mn lo hi c free n m : Int} (h : 0 ≤ n ∧ n ≤ 256) (h' : 0 ≤ m ∧ m ≤ 256) : zchd mn lo hi c free n = zchd mn lo hi c free m := by
  unfold zchd
  split
  · rfl
  · split
    · rfl
    · (repeat' split) <;> omega

end Go.Proofs.YtmbpjafiinfkkaaGreatDoor
