/- The law's own helpers: steps, directs. -/
import Derived.Test.YtiobbdfkimpfbaaScQ
import Derived.Test.YtiobbdfkimpfbaaKitS
import Derived.Test.YtiobbdfkimpfbaaKitL
namespace Go.Proofs.Ytiobbdfkimpfbaa
open Go.RowKit Go.Maps

theorem same_lists (A1 A2 A3 B1 B2 B3 : Option Addr) (c1 c2 c3 d1 d2 d3 : Nat) (xs ys : List Int) (rs : List Bool) (w : World) (h : InMem w A1 A2 A3 xs ys rs) (h' : InMem w B1 B2 B3 xs ys rs) (l1 : xs.length ≤ 1000) (l2 : ys.length ≤ 1000) (l3 : rs.length ≤ 1000) :
    Calls Try.prog 15 #[.agg #[.slice A1 xs.length c1, .slice A2 ys.length c2, .slice A3 rs.length c3], .agg #[.slice B1 xs.length d1, .slice B2 ys.length d2, .slice B3 rs.length d3]] w fun e w' => e = .returned (.bool true) ∧ Below w.heap.size w w' := by
  have := SameLists_any A1 A2 A3 B1 B2 B3 c1 c2 c3 d1 d2 d3 xs ys xs ys rs rs w h.a h.i h.r h'.a h'.i h'.r (by omega) (by omega) (by omega) (by omega) (by omega) (by omega)
  simpa using this

set_option maxRecDepth 100000 in
set_option maxHeartbeats 4000000 in
theorem steps_any (A1 A2 A3 B1 B2 B3 : Option Addr) (c1 c2 c3 d1 d2 d3 : Nat) (xs ys us vs : List Int) (rs ss : List Bool) (T what frame : Int) (w : World) (h : InMem w A1 A2 A3 xs ys rs) (h' : InMem w B1 B2 B3 us vs ss)
    (hS : fullS T xs ys rs = ⟨what, frame, us, vs, ss, 0⟩) (l1 : us.length ≤ 1000) (l2 : vs.length ≤ 1000) (l3 : ss.length ≤ 1000) :
    Calls Try.prog 28 #[.agg #[.slice A1 xs.length c1, .slice A2 ys.length c2, .slice A3 rs.length c3], .int .i64 T, .int .i64 what, .int .i64 frame, .agg #[.slice B1 us.length d1, .slice B2 vs.length d2, .slice B3 ss.length d3]] w fun e w' => e = .returned (.bool true) ∧ Below w.heap.size w w' := by
  have HM := Lib.hid h; have HM' := Lib.hid h'; have HS := Lib.hid hS
  clear h h' hS
  go_enter Try.func28, Try.ntmps28
  go_wp2_with fail
  obtain ⟨X, hX⟩ : ∃ X, (w.alloc (.cells #[.slice A1 xs.length c1, .slice A2 ys.length c2, .slice A3 rs.length c3] 25)).alloc (.cells #[.slice B1 us.length d1, .slice B2 vs.length d2, .slice B3 ss.length d3] 25) = X := ⟨_, rfl⟩
  have HBX : Hid (Below w.heap.size w X) := by show Below _ _ _; rw [← hX]; exact ((Below.refl _ _).alloc (Nat.le_refl _) _).alloc (by simp) _
  have k9 : Blk X (w.heap.size + 1) 25 #[.slice B1 us.length d1, .slice B2 vs.length d2, .slice B3 ss.length d3] := by rw [← hX]; exact Blk.new_ (by simp) rfl
  (try rw [hX])
  refine (Step_any A1 A2 A3 c1 c2 c3 xs ys rs T X (HM.out.ext HBX.out)).mono ?_
  rw [HS.out]
  rintro e x1 ⟨E1, E2, E3, e1, e2, e3, rfl, hm1, hn1, hb1⟩
  dsimp only at hm1 hn1 ⊢
  have HM1 := Lib.hid hm1
  have K9 := Lib.hid (k9.below_ hb1 k9.lt)
  have HB1 := Lib.hid (HBX.out.trans (hb1.mono HBX.out.size))
  have q0 : x1.cell? ⟨w.heap.size + 1, 0, none⟩ = some (.slice B1 us.length d1) := (K9.out.cell_ 0).trans (by simp)
  have q1 : x1.cell? ⟨w.heap.size + 1, 1, none⟩ = some (.slice B2 vs.length d2) := (K9.out.cell_ 1).trans (by simp)
  have q2 : x1.cell? ⟨w.heap.size + 1, 2, none⟩ = some (.slice B3 ss.length d3) := (K9.out.cell_ 2).trans (by simp)
  have kl := K9.out.lt
  have nb : w.heap.size + 1 ≠ x1.heap.size := by omega
  clear hm1 hn1 hb1 k9 hX
  go_wp2_with fail
  have HA : ∀ o : Obj, Below x1.heap.size x1 (x1.alloc o) := fun o => (Below.refl _ _).alloc (Nat.le_refl _) _
  refine (same_lists E1 E2 E3 B1 B2 B3 e1 e2 e3 d1 d2 d3 us vs ss _ (HM1.out.ext (HA _)) (HM'.out.ext (HB1.out.trans ((HA _).mono HB1.out.size))) l1 l2 l3).mono ?_
  rintro e x2 ⟨rfl, hb2⟩
  have HB2 := HB1.out.trans (((HA _).trans (hb2.mono (HA _).size)).mono HB1.out.size)
  clear hb2
  go_wp2_with fail
  go_ret
  exact ⟨rfl, HB2⟩

set_option maxRecDepth 100000 in
set_option maxHeartbeats 4000000 in
theorem directs_any (A1 A2 A3 B1 B2 B3 : Option Addr) (c1 c2 c3 d1 d2 d3 : Nat) (xs ys us vs : List Int) (rs ss : List Bool) (frame : Int) (w : World) (h : InMem w A1 A2 A3 xs ys rs) (h' : InMem w B1 B2 B3 us vs ss)
    (hS : dirS xs ys rs = ⟨us, vs, ss, 0⟩ ∧ dirF xs ys rs = frame) (l1 : us.length ≤ 1000) (l2 : vs.length ≤ 1000) (l3 : ss.length ≤ 1000) :
    Calls Try.prog 29 #[.agg #[.slice A1 xs.length c1, .slice A2 ys.length c2, .slice A3 rs.length c3], .int .i64 frame, .agg #[.slice B1 us.length d1, .slice B2 vs.length d2, .slice B3 ss.length d3]] w fun e w' => e = .returned (.bool true) ∧ Below w.heap.size w w' := by
  have HM := Lib.hid h; have HM' := Lib.hid h'; have HS := Lib.hid hS
  clear h h' hS
  go_enter Try.func29, Try.ntmps29
  go_wp2_with fail
  obtain ⟨X, hX⟩ : ∃ X, (w.alloc (.cells #[.slice A1 xs.length c1, .slice A2 ys.length c2, .slice A3 rs.length c3] 25)).alloc (.cells #[.slice B1 us.length d1, .slice B2 vs.length d2, .slice B3 ss.length d3] 25) = X := ⟨_, rfl⟩
  have HBX : Hid (Below w.heap.size w X) := by show Below _ _ _; rw [← hX]; exact ((Below.refl _ _).alloc (Nat.le_refl _) _).alloc (by simp) _
  have k9 : Blk X (w.heap.size + 1) 25 #[.slice B1 us.length d1, .slice B2 vs.length d2, .slice B3 ss.length d3] := by rw [← hX]; exact Blk.new_ (by simp) rfl
  (try rw [hX])
  refine (Direct_any A1 A2 A3 c1 c2 c3 xs ys rs X (HM.out.ext HBX.out)).mono ?_
  rw [HS.out.1, HS.out.2]
  rintro e x1 ⟨E1, e1, E2, e2, E3, e3, rfl, hm1, hn1, hb1⟩
  dsimp only at hm1 hn1 ⊢
  have HM1 := Lib.hid hm1
  have K9 := Lib.hid (k9.below_ hb1 k9.lt)
  have HB1 := Lib.hid (HBX.out.trans (hb1.mono HBX.out.size))
  have q0 : x1.cell? ⟨w.heap.size + 1, 0, none⟩ = some (.slice B1 us.length d1) := (K9.out.cell_ 0).trans (by simp)
  have q1 : x1.cell? ⟨w.heap.size + 1, 1, none⟩ = some (.slice B2 vs.length d2) := (K9.out.cell_ 1).trans (by simp)
  have q2 : x1.cell? ⟨w.heap.size + 1, 2, none⟩ = some (.slice B3 ss.length d3) := (K9.out.cell_ 2).trans (by simp)
  have kl := K9.out.lt
  have nb : w.heap.size + 1 ≠ x1.heap.size := by omega
  clear hm1 hn1 hb1 k9 hX
  go_wp2_with fail
  have HA : ∀ o : Obj, Below x1.heap.size x1 (x1.alloc o) := fun o => (Below.refl _ _).alloc (Nat.le_refl _) _
  refine (same_lists E1 E2 E3 B1 B2 B3 e1 e2 e3 d1 d2 d3 us vs ss _ (HM1.out.ext (HA _)) (HM'.out.ext (HB1.out.trans ((HA _).mono HB1.out.size))) l1 l2 l3).mono ?_
  rintro e x2 ⟨rfl, hb2⟩
  have HB2 := HB1.out.trans (((HA _).trans (hb2.mono (HA _).size)).mono HB1.out.size)
  clear hb2
  go_wp2_with fail
  go_ret
  exact ⟨rfl, HB2⟩
end Go.Proofs.Ytiobbdfkimpfbaa
