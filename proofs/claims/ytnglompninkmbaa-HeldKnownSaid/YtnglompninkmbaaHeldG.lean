/- Contracts of held.Check and held.Find. -/
import Derived.Test.YtnglompninkmbaaHeldC
namespace Go.Proofs.Ytnglompninkmbaa
open Go.RowKit Go.Maps

set_option maxHeartbeats 1000000 in
theorem Check_any (A : Option Addr) (c : Nat) (l : List Wr) (w : World) (ha : SW w A l) (la : l.length ≤ 1000) {z : Int} {n : Nat} (h : chkS l = (z, n)) :
    Calls Try.prog 16 #[.slice A l.length c] w fun e w' => e = .returned (.tuple #[.int .i64 z, .int .i64 n]) ∧ Below w.heap.size w w' := by
  have HS := Lib.hid ha
  clear ha
  by_cases hz : z = 0
  · subst hz
    have HZ : Hid ((chkS l).1 = 0) := by show _ = _; rw [h]
    have HN : Hid ((chkS l).2 = n) := by show _ = _; rw [h]
    clear h
    go_enter Try.func16, Try.ntmps16
    go_wp2_with (first | (go_at_call 34; with_reducible refine (read_good _ _ _ _ HS.out la HZ.out).mono ?_; rw [HN.out]; rintro e w1 ⟨B, rfl, hB, hm, hb1⟩))
    refine bodyPost_ret (v := .tuple #[.int .i64 0, .int .i64 n]) (by simp [results, Try.results16, go_sem]) rfl ?_
    exact ⟨rfl, hb1⟩
  · have H := Lib.hid h
    clear h
    go_enter Try.func16, Try.ntmps16
    go_wp2_with (first | (go_at_call 34; with_reducible refine (read_bad _ _ _ _ HS.out la H.out hz).mono ?_; rintro e w1 ⟨rfl, hb1⟩))
    refine bodyPost_ret (v := .tuple #[.int .i64 z, .int .i64 n]) (by simp [results, Try.results16, go_sem]) rfl ?_
    exact ⟨rfl, hb1⟩

theorem findS_zero {l : List Wr} {s z : Int} {n : Nat} (h : findS l s = (n, z)) (hz : z ≠ 0) : n = 0 := by
  unfold findS at h
  by_cases h0 : (chkS l).1 ≠ 0
  · rw [if_pos h0] at h
    exact (Prod.mk.inj h).1.symm
  · rw [if_neg h0] at h
    by_cases hs : 0 ≤ s ∧ s < 256
    · rw [if_pos hs] at h
      cases hf : l.findIdx? (fun x => decide (x.1 = s)) with
      | none => rw [hf] at h; exact (Prod.mk.inj h).1.symm
      | some k =>
        rw [hf] at h
        exact absurd (Prod.mk.inj h).2.symm hz
    · rw [if_neg hs] at h
      exact (Prod.mk.inj h).1.symm
set_option maxHeartbeats 1000000 in
theorem Find_any (A : Option Addr) (c : Nat) (l : List Wr) (s : Int) (w : World) (ha : SW w A l) (la : l.length ≤ 1000) {n : Nat} {z : Int} (h : findS l s = (n, z)) :
    Calls Try.prog 20 #[.slice A l.length c, .int .i64 s] w fun e w' => e = .returned (.tuple #[.int .i64 n, .int .i64 z]) ∧ Below w.heap.size w w' := by
  have HS := Lib.hid ha
  clear ha
  by_cases hz : z = 0
  · subst hz
    have H := Lib.hid h
    clear h
    go_enter Try.func20, Try.ntmps20
    go_wp2_with (first | (go_at_call 33; with_reducible refine (find_good _ _ _ _ _ HS.out la H.out).mono ?_; rintro e w1 ⟨B, rfl, hB, hm, hb1⟩))
    refine bodyPost_ret (v := .tuple #[.int .i64 n, .int .i64 0]) (by simp [results, Try.results20, go_sem]) rfl ?_
    exact ⟨rfl, hb1⟩
  · obtain rfl := findS_zero h hz
    have HK : Hid ((findS l s).2 = z) := by show _ = _; rw [h]
    clear h
    go_enter Try.func20, Try.ntmps20
    go_wp2_with (first | (go_at_call 33; with_reducible refine (find_bad _ _ _ _ _ HS.out la HK.out hz).mono ?_; rintro e w1 ⟨rfl, hb1⟩))
    refine bodyPost_ret (v := .tuple #[.int .i64 (0 : Nat), .int .i64 z]) (by simp [results, Try.results20, go_sem]) rfl ?_
    exact ⟨rfl, hb1⟩
end Go.Proofs.Ytnglompninkmbaa
