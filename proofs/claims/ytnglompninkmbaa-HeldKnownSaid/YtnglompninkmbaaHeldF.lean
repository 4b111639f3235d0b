/- Contracts of held.find, Check, Find. -/
import Derived.Test.YtnglompninkmbaaHeldQ
namespace Go.Proofs.Ytnglompninkmbaa
open Go.RowKit Go.Maps

theorem read_bad (A : Option Addr) (c : Nat) (l : List Wr) (w : World) (ha : SW w A l) (la : l.length ≤ 1000) {z : Int} {k : Nat} (hz : chkS l = (z, k)) (hn : z ≠ 0) :
    Calls Try.prog 34 #[.slice A l.length c] w fun e w' => e = .returned (.tuple #[.map none, .int .i64 z, .int .i64 k]) ∧ Below w.heap.size w w' :=
  (read_any A c l w ha la).mono fun e w' h => by
    obtain ⟨hb, ⟨h0, he⟩ | ⟨h0, _⟩⟩ := h.plain
    · rw [hz] at he; exact ⟨he, hb⟩
    · rw [hz] at h0; exact absurd h0 hn
theorem read_good (A : Option Addr) (c : Nat) (l : List Wr) (w : World) (ha : SW w A l) (la : l.length ≤ 1000) (hz : (chkS l).1 = 0) :
    Calls Try.prog 34 #[.slice A l.length c] w fun e w' => ∃ B, e = .returned (.tuple #[.map (some B), .int .i64 0, .int .i64 (chkS l).2]) ∧ w.heap.size ≤ B ∧ MapK w' B (mapOf l) ∧ Below w.heap.size w w' :=
  (read_any A c l w ha la).mono fun e w' h => by
    obtain ⟨hb, ⟨h0, he⟩ | ⟨h0, B, hB, he, hm⟩⟩ := h.plain
    · exact absurd hz h0
    · exact ⟨B, he, hB, hm, hb⟩

/-- find: the number, the error. -/
def findS (l : List Wr) (s : Int) : Nat × Int :=
  if (chkS l).1 ≠ 0 then (0, (chkS l).1) else if 0 ≤ s ∧ s < 256 then (match l.findIdx? (fun x => decide (x.1 = s)) with | none => (0, 6) | some i => (i, 0)) else (0, 2)
def FindPost (l : List Wr) (s : Int) (w : World) (e : Ending) (w' : World) : Prop :=
  Below w.heap.size w w' ∧ ((findS l s).2 ≠ 0 ∧ e = .returned (.tuple #[.map none, .int .i64 0, .int .i64 (findS l s).2]) ∨
    (findS l s).2 = 0 ∧ ∃ B, w.heap.size ≤ B ∧ e = .returned (.tuple #[.map (some B), .int .i64 (findS l s).1, .int .i64 0]) ∧ MapK w' B (mapOf l))
theorem FindPost.bad {l : List Wr} {s : Int} {w w' : World} {z : Int} (hz : (findS l s).2 = z) (hn : z ≠ 0) (hb : Below w.heap.size w w') : FindPost l s w (.returned (.tuple #[.map none, .int .i64 0, .int .i64 z])) w' :=
  ⟨hb, .inl ⟨by rw [hz]; exact hn, by rw [hz]⟩⟩
theorem FindPost.good {l : List Wr} {s : Int} {w w' : World} {i B : Nat} (hz : findS l s = (i, 0)) (hB : w.heap.size ≤ B) (hm : MapK w' B (mapOf l)) (hb : Below w.heap.size w w') : FindPost l s w (.returned (.tuple #[.map (some B), .int .i64 i, .int .i64 0])) w' :=
  ⟨hb, .inr ⟨by rw [hz], B, hB, by rw [hz], hm⟩⟩
theorem rlook {w : World} {B : Nat} {m : List ((Int × Int) × Int)} (h : MapK w B m) (a b : Int) {o : Option Int} (ho : m.lookup (a, b) = o) :
    (Instr.lookup 52 (.map (some B)) (.agg #[.int .i64 a, .int .i64 b]) true).run Try.prog w = .ok (okOf o) w := by
  rw [← ho]
  exact run_lookK h (a, b)

set_option maxRecDepth 100000 in
set_option maxHeartbeats 4000000 in
theorem find_any (A : Option Addr) (c : Nat) (l : List Wr) (s : Int) (w : World) (ha : SW w A l) (la : l.length ≤ 1000) :
    Calls Try.prog 33 #[.slice A l.length c, .int .i64 s] w (FindPost l s w) := by
  have HA := Lib.hid ha
  clear ha
  by_cases hz : (chkS l).1 = 0
  · have HZ := Lib.hid hz
    cases d1 : decide (0 ≤ s ∧ s < 256) with
    | true =>
      have hs : 0 ≤ s ∧ s < 256 := by simpa using d1
      cases hf : l.findIdx? (fun x => decide (x.1 = s)) with
      | none =>
        have hF : Hid ((findS l s).2 = 6) := by show _ = _; unfold findS; rw [if_neg (by simp [hz]), if_pos hs, hf]
        have hL : Hid ((mapOf l).lookup (1, s) = none) := by show _ = _; rw [look_slot, hf]; rfl
        clear hf hz hs
        go_enter Try.func33, Try.ntmps33
        go_wp2_with (first | (go_at_call 35; with_reducible refine (isSlot_b _ _ d1 _).mono ?_; rintro e w' ⟨rfl, rfl⟩) | (go_at_call 34; with_reducible refine (read_good _ _ _ _ HA.out la HZ.out).mono ?_; rintro e w1 ⟨B, rfl, hB, hm, hb1⟩; have hlk := rlook hm 1 s hL.out; simp only [okOf] at hlk))
        refine bodyPost_ret (v := .tuple #[.map none, .int .i64 0, .int .i64 6]) (by simp [results, Try.results33, go_sem]) rfl ?_
        exact FindPost.bad hF.out (by decide) (by repeat' (first | with_reducible exact Below.refl _ _ | with_reducible assumption | with_reducible apply Below.drew | with_reducible apply below_drewN | with_reducible apply Below.alloc | with_reducible apply Below.setCell | (with_reducible refine Below.trans ?_ (Below.mono (by assumption) ?_)) | (simp; done) | (simp; omega) | omega | with_reducible apply le_size_alloc | with_reducible apply le_size_drewN | with_reducible apply le_size_drew | with_reducible apply le_size_setCell | refine Nat.le_trans ?_ (Below.size (by assumption))))
      | some i =>
        have hF : Hid (findS l s = (i, 0)) := by show _ = _; unfold findS; rw [if_neg (by simp [hz]), if_pos hs, hf]
        have hL : Hid ((mapOf l).lookup (1, s) = some (i : Int)) := by show _ = _; rw [look_slot, hf]; rfl
        clear hf hz hs
        go_enter Try.func33, Try.ntmps33
        go_wp2_with (first | (go_at_call 35; with_reducible refine (isSlot_b _ _ d1 _).mono ?_; rintro e w' ⟨rfl, rfl⟩) | (go_at_call 34; with_reducible refine (read_good _ _ _ _ HA.out la HZ.out).mono ?_; rintro e w1 ⟨B, rfl, hB, hm, hb1⟩; have hlk := rlook hm 1 s hL.out; simp only [okOf] at hlk))
        refine bodyPost_ret (v := .tuple #[.map (some B), .int .i64 i, .int .i64 0]) (by simp [results, Try.results33, go_sem]) rfl ?_
        exact FindPost.good hF.out hB hm (by repeat' (first | with_reducible exact Below.refl _ _ | with_reducible assumption | with_reducible apply Below.drew | with_reducible apply below_drewN | with_reducible apply Below.alloc | with_reducible apply Below.setCell | (with_reducible refine Below.trans ?_ (Below.mono (by assumption) ?_)) | (simp; done) | (simp; omega) | omega | with_reducible apply le_size_alloc | with_reducible apply le_size_drewN | with_reducible apply le_size_drew | with_reducible apply le_size_setCell | refine Nat.le_trans ?_ (Below.size (by assumption))))
    | false =>
      have hF : Hid ((findS l s).2 = 2) := by show _ = _; unfold findS; rw [if_neg (by simp [hz]), if_neg (by simpa using d1)]
      clear hz
      go_enter Try.func33, Try.ntmps33
      go_wp2_with (first | (go_at_call 35; with_reducible refine (isSlot_b _ _ d1 _).mono ?_; rintro e w' ⟨rfl, rfl⟩) | (go_at_call 34; with_reducible refine (read_good _ _ _ _ HA.out la HZ.out).mono ?_; rintro e w1 ⟨B, rfl, hB, hm, hb1⟩))
      refine bodyPost_ret (v := .tuple #[.map none, .int .i64 0, .int .i64 2]) (by simp [results, Try.results33, go_sem]) rfl ?_
      exact FindPost.bad hF.out (by decide) (by repeat' (first | with_reducible exact Below.refl _ _ | with_reducible assumption | with_reducible apply Below.drew | with_reducible apply below_drewN | with_reducible apply Below.alloc | with_reducible apply Below.setCell | (with_reducible refine Below.trans ?_ (Below.mono (by assumption) ?_)) | (simp; done) | (simp; omega) | omega | with_reducible apply le_size_alloc | with_reducible apply le_size_drewN | with_reducible apply le_size_drew | with_reducible apply le_size_setCell | refine Nat.le_trans ?_ (Below.size (by assumption))))
  · obtain ⟨⟨z, k⟩, hk⟩ : ∃ r, chkS l = r := ⟨_, rfl⟩
    rw [hk] at hz
    have hF : Hid ((findS l s).2 = z) := by show _ = _; unfold findS; rw [hk, if_pos hz]
    have hzb : (z != 0) = true := by simpa using hz
    have HK := Lib.hid hk
    have HN := Lib.hid hz
    clear hk
    go_enter Try.func33, Try.ntmps33
    go_wp2_with (first | (go_at_call 34; with_reducible refine (read_bad _ _ _ _ HA.out la HK.out HN.out).mono ?_; rintro e w1 ⟨rfl, hb1⟩))
    refine bodyPost_ret (v := .tuple #[.map none, .int .i64 0, .int .i64 z]) (by simp [results, Try.results33, go_sem]) rfl ?_
    exact FindPost.bad hF.out HN.out (by repeat' (first | with_reducible exact Below.refl _ _ | with_reducible assumption | with_reducible apply Below.drew | with_reducible apply below_drewN | with_reducible apply Below.alloc | with_reducible apply Below.setCell | (with_reducible refine Below.trans ?_ (Below.mono (by assumption) ?_)) | (simp; done) | (simp; omega) | omega | with_reducible apply le_size_alloc | with_reducible apply le_size_drewN | with_reducible apply le_size_drew | with_reducible apply le_size_setCell | refine Nat.le_trans ?_ (Below.size (by assumption))))
end Go.Proofs.Ytnglompninkmbaa
