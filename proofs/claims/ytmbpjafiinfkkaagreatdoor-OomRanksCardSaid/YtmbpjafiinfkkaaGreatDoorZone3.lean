/- Contracts of the package zone: what is missing, levels, who is awake. -/
import Derived.Test.YtmbpjafiinfkkaaGreatDoorZone2
namespace Go.Proofs.YtmbpjafiinfkkaaGreatDoor
set_option linter.unusedSimpArgs false
set_option linter.unusedVariables false
open Go.RowKit Go.Maps

/-- What Needs gives back. -/
def needsR (mn lo hi c free n : Int) : Value :=
  if zchd mn lo hi c free n ≠ 0 then .tuple #[.int .i64 0, .int .i64 (zchd mn lo hi c free n)]
  else if n = 0 then .tuple #[.int .i64 0, .int .i64 0] else .tuple #[.int .i64 (max (flo mn hi c + n - free) 0), .int .i64 0]

/-- What May gives back. -/
def mayR (mn lo hi c free : Int) : Value :=
  .tuple #[.bool (decide (zchd mn lo hi c free 1 = 0 ∧ flo mn hi c < free)), .int .i64 (zchd mn lo hi c free 1)]

theorem takeR_form (mn lo hi c free n : Int) : ∃ got left, takeR mn lo hi c free n = .tuple #[.int .i64 got, .int .i64 left, .int .i64 (zchd mn lo hi c free n)] ∧
    (n = 1 → ((got == 1) = decide (zchd mn lo hi c free n = 0 ∧ flo mn hi c < free))) := by
  unfold takeR
  by_cases h : zchd mn lo hi c free n ≠ 0
  · rw [if_pos h]
    refine ⟨_, _, rfl, fun _ => ?_⟩
    simp [h]
  · have h' : zchd mn lo hi c free n = 0 := by simpa using h
    rw [if_neg h, h']
    refine ⟨_, _, rfl, fun hn => ?_⟩
    subst hn
    rw [Bool.eq_iff_iff]
    simp
    omega

/-- What Level and Awake give back. -/
def levelR (mn lo hi free : Int) : Value :=
  if zchd mn lo hi 1 free 0 ≠ 0 then .tuple #[.int .i64 0, .int .i64 (zchd mn lo hi 1 free 0)]
  else .tuple #[.int .i64 (if hi ≤ free then 0 else if lo ≤ free then 1 else if mn < free then 2 else 3), .int .i64 0]
def awakeR (mn lo hi free : Int) (was : Bool) : Value :=
  if zchd mn lo hi 1 free 0 ≠ 0 then .tuple #[.bool false, .int .i64 (zchd mn lo hi 1 free 0)]
  else .tuple #[.bool (decide (free < lo) || (decide (free < hi) && was)), .int .i64 0]

end Go.Proofs.YtmbpjafiinfkkaaGreatDoor
