/- Contracts of the package zone: those who ask for frames. -/
import Derived.Test.YtmbpjafiinfkkaaGreatDoorZone
import Derived.Laws.EntriesVeiled
import Derived.Deep.RegionHeld3
namespace Go.Proofs.YtmbpjafiinfkkaaGreatDoor
set_option linter.unusedSimpArgs false
set_option linter.unusedVariables false
open Go.RowKit Go.Maps

def flo (mn hi c : Int) : Int := if c = 1 then mn else if c = 2 then 0 else hi
/-- What Take gives back. -/
def takeR (mn lo hi c free n : Int) : Value :=
  if zchd mn lo hi c free n ≠ 0 then .tuple #[.int .i64 0, .int .i64 0, .int .i64 (zchd mn lo hi c free n)]
  else .tuple #[.int .i64 (min n (max (free - flo mn hi c) 0)), .int .i64 (free - min n (max (free - flo mn hi c) 0)), .int .i64 0]

theorem zchd_ok {mn lo hi c free n : Int} (h : zchd mn lo hi c free n = 0) : 0 ≤ mn ∧ mn < lo ∧ lo < hi ∧ hi ≤ 256 ∧ 1 ≤ c ∧ c ≤ 3 ∧ 0 ≤ free ∧ free ≤ 256 ∧ 0 ≤ n ∧ n ≤ 256 := by
  unfold zchd at h
  by_cases h1 : zchk mn lo hi 256 ≠ 0
  · rw [if_pos h1] at h; exact absurd h h1
  · rw [if_neg h1] at h
    have h2 : zchk mn lo hi 256 = 0 := by simpa using h1
    clear h1
    unfold zchk at h2
    split at h <;> (try split at h) <;> (try omega)
    all_goals (repeat' split at h2) <;> omega

end Go.Proofs.YtmbpjafiinfkkaaGreatDoor
