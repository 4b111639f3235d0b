/- Package readin in plain Lean: an access is (state, frame, write). -/
import Derived.Test.YtngenoblifhnpaaDoorMem
namespace Go.Proofs.YtngenoblifhnpaaDoor
open Go.RowKit Go.Maps

abbrev RI := Int × Int × Int
/-- A frame, or none. -/
def frOk (n : Int) : Bool := decide (n = -1) || decide (0 ≤ n ∧ n < 256)
/-- The form of an access of a state from 1 to 8. -/
def goodR (r : RI) : Bool :=
  if r.1 = 1 ∨ r.1 = 7 then decide (r.2.1 = -1)
  else if r.1 = 2 then decide (r.2.1 ≠ -1) && decide (r.2.1 ≠ r.2.2)
  else if r.1 = 3 ∨ r.1 = 6 ∨ r.1 = 5 then decide (r.2.1 ≠ -1) && decide (r.2.2 = -1)
  else if r.1 = 4 then decide (r.2.2 ≠ -1) && decide (r.2.1 ≠ r.2.2)
  else decide (r.2.1 = -1) && decide (r.2.2 = -1)
/-- Check. -/
def chkR (r : RI) : Int := if r.1 < 1 ∨ 8 < r.1 then 9 else if frOk r.2.1 = false ∨ frOk r.2.2 = false then 2 else if goodR r then 0 else 3
/-- Whether an event is not refused by a valid access. -/
def canR (r : RI) (e : Int) : Bool :=
  if e = 1 then decide (r.1 = 1 ∧ r.2.2 = -1)
  else if e = 2 then decide ((r.1 = 1 ∨ r.1 = 2) ∧ r.2.2 ≠ -1)
  else if e = 3 then decide (r.1 = 2 ∧ r.2.2 = -1)
  else if e = 4 then decide ((r.1 = 1 ∨ r.1 = 2 ∨ r.1 = 4 ∨ r.1 = 7) ∧ r.2.2 ≠ -1)
  else if e = 5 then decide ((r.1 = 3 ∨ r.1 = 6) ∧ r.2.2 = -1)
  else decide (r.1 = 1 ∨ r.1 = 2 ∨ (r.1 = 3 ∧ r.2.2 = -1) ∨ (r.1 = 4 ∧ r.2.2 ≠ -1))
/-- The frames of a list that are there. -/
def thereF (l : List Int) : List Int := l.filter (fun n => decide (n ≠ -1))
/-- after: the access, the frames freed, the frame mapped. -/
def aftR (r : RI) (e f : Int) : RI × List Int × Int :=
  if e = 1 then ((2, f, r.2.2), [], -1)
  else if e = 2 then ((4, r.2.1, r.2.2), [], -1)
  else if e = 3 then ((3, r.2.1, r.2.2), [], -1)
  else if e = 4 then (if r.1 = 4 then ((5, r.2.2, -1), thereF [r.2.1], r.2.2) else ((r.1, r.2.1, -1), thereF [r.2.2], -1))
  else if e = 5 then (if r.1 = 6 then ((8, -1, r.2.2), thereF [r.2.1], -1) else ((5, r.2.1, r.2.2), [], r.2.1))
  else if e = 6 then (if r.1 = 3 then ((6, r.2.1, r.2.2), [], -1) else ((7, -1, r.2.2), thereF [r.2.1], -1))
  else (r, [], -1)
/-- Step: the access, the frames freed, the frame mapped, the error. -/
def stpR (r : RI) (e f : Int) : RI × List Int × Int × Int :=
  if chkR r ≠ 0 then ((0, 0, 0), [], 0, chkR r)
  else if e < 1 ∨ 6 < e then ((0, 0, 0), [], 0, 16)
  else if (e = 1 ∧ ¬(0 ≤ f ∧ f < 256)) ∨ (e ≠ 1 ∧ f ≠ -1) then ((0, 0, 0), [], 0, 2)
  else if canR r e = false then ((0, 0, 0), [], 0, 9)
  else if e = 1 ∧ f = r.2.2 then ((0, 0, 0), [], 0, 7)
  else ((aftR r e f).1, (aftR r e f).2.1, (aftR r e f).2.2, 0)
/-- The events that are not refused, ascending. -/
def evsR (r : RI) : List Int := [1, 2, 3, 4, 5, 6].filter (fun e => canR r e)
/-- Needs of a valid access. -/
def ndsR (r : RI) : Int := if r.1 = 1 then (if r.2.2 = -1 then 3 else 2) else if r.1 = 2 then 2 else if r.1 = 3 ∨ r.1 = 4 then 1 else 0
/-- The shortest way of a valid access, and the error. -/
def shoR (r : RI) : List Int × Int :=
  if r.1 = 1 ∧ r.2.2 = -1 then ([1, 3, 5], 0)
  else if r.1 = 2 ∧ r.2.2 = -1 then ([3, 5], 0)
  else if r.1 = 1 ∨ r.1 = 2 then ([2, 4], 0)
  else if r.1 = 3 then ([5], 0)
  else if r.1 = 4 then ([4], 0)
  else if r.1 = 5 then ([], 0)
  else ([], 9)
end Go.Proofs.YtngenoblifhnpaaDoor
