/- Package held in plain Lean: what its functions answer. -/
import Derived.Test.YtnglompninkmbaaHeldA
import Derived.Test.YtnglompninkmbaaHeldS
namespace Go.Proofs.Ytnglompninkmbaa
open Go.RowKit Go.Maps

/-- Slot, frame and claim are in their ranges. -/
def okW (x : Wr) : Bool := decide (0 ≤ x.1 ∧ x.1 < 256) && (decide (0 ≤ x.2.1 ∧ x.2.1 < 256) && (decide (x.2.2 = 0) || decide (1 ≤ x.2.2 ∧ x.2.2 ≤ 8)))
/-- read: the error, its number, the map, from the number i on. -/
def readG (m : List ((Int × Int) × Int)) (i : Nat) : List Wr → Int × Nat × List ((Int × Int) × Int)
  | [] => (0, 0, m)
  | x :: l => if okW x then (if clashM m x.1 x.2.1 x.2.2 then (7, i, []) else readG (addM m x.1 x.2.1 x.2.2 i) (i + 1) l) else (2, i, [])
def readS (l : List Wr) : Int × Nat × List ((Int × Int) × Int) := if 16 < l.length then (5, 0, []) else readG [] 0 l
theorem readG_at {m : List ((Int × Int) × Int)} {l : List Wr} {k : Nat} {x : Wr} (h : l[k]? = some x) :
    readG m k (l.drop k) = if okW x then (if clashM m x.1 x.2.1 x.2.2 then (7, k, []) else readG (addM m x.1 x.2.1 x.2.2 k) (k + 1) (l.drop (k + 1))) else (2, k, []) := by
  obtain ⟨hk, rfl⟩ := List.getElem?_eq_some_iff.1 h
  rw [List.drop_eq_getElem_cons hk, readG]

/-- What read hands back. -/
def ReadPost (l : List Wr) (w : World) (e : Ending) (w' : World) : Prop :=
  Below w.heap.size w w' ∧ ∃ B, w.heap.size ≤ B ∧ e = .returned (.tuple #[.map (if (readS l).1 = 0 then some B else none), .int .i64 (readS l).1, .int .i64 (readS l).2.1]) ∧ ((readS l).1 = 0 → MapK w' B (readS l).2.2)

theorem below_grown {w a b : World} {B : Nat} (h : Below w.heap.size w a) (hg : a.grownBy b (some B)) (hB : w.heap.size ≤ B) : Below w.heap.size w b :=
  ⟨hg.os.trans h.os, hg.tape.trans h.tape, hg.output.trans h.output, Nat.le_trans h.size hg.size, fun k hk => (hg.block k (by have := h.size; omega) (by simp; omega)).trans (h.block k hk)⟩

theorem ReadPost.bad {l : List Wr} {w w' : World} {z : Int} {k : Nat} {m : List ((Int × Int) × Int)} (hz : readS l = (z, k, m)) (hn : z ≠ 0) (hb : Below w.heap.size w w') :
    ReadPost l w (.returned (.tuple #[.map none, .int .i64 z, .int .i64 k])) w' := by
  unfold ReadPost
  rw [hz]
  exact ⟨hb, w.heap.size, Nat.le_refl _, by rw [if_neg hn], fun e => absurd e hn⟩
theorem ReadPost.good {l : List Wr} {w w' : World} {k B : Nat} {m : List ((Int × Int) × Int)} (hz : readS l = (0, k, m)) (hB : w.heap.size ≤ B) (hm : MapK w' B m) (hb : Below w.heap.size w w') :
    ReadPost l w (.returned (.tuple #[.map (some B), .int .i64 0, .int .i64 k])) w' := by
  unfold ReadPost
  rw [hz]
  exact ⟨hb, B, hB, by rw [if_pos rfl], fun _ => hm⟩

set_option maxRecDepth 100000 in
set_option maxHeartbeats 4000000 in
theorem read_any (A : Option Addr) (c : Nat) (l : List Wr) (w : World) (ha : SW w A l) (la : l.length ≤ 1000) :
    Calls Try.prog 34 #[.slice A l.length c] w (ReadPost l w) := by
  have HA := Lib.hid ha
  clear ha
  by_cases h16 : 16 < l.length
  · have hS : readS l = (5, 0, []) := by unfold readS; rw [if_pos h16]
    have h16' : (16 : Int) < l.length := by omega
    have HS := Lib.hid hS
    clear hS
    go_enter Try.func34, Try.ntmps34
    go_wp2
    refine bodyPost_ret (v := .tuple #[.map none, .int .i64 5, .int .i64 (0 : Nat)]) (by simp [results, Try.results34, go_sem]) rfl ?_
    exact ReadPost.bad HS.out (by decide) (Below.refl _ _)
  · have hS : readS l = readG [] 0 l := by unfold readS; rw [if_neg h16]
    have HS := Lib.hid hS
    clear hS
    have hmm := @run_makeMap Try.prog
    go_enter Try.func34, Try.ntmps34
    go_wp2
    go_loopw [14] (fun i wr => ∃ (k : Nat) (m : List ((Int × Int) × Int)), k ≤ l.length ∧ i = .int .i64 k ∧ MapK wr w.heap.size m ∧ Hid (readG [] 0 l = readG m k (l.drop k)) ∧ Below w.heap.size w wr) (fun i _ => l.length - (intOf i).toNat)
    case atStart => exact ⟨0, [], by omega, rfl, MapK.new_ w, rfl, (by repeat' (first | with_reducible exact Below.refl _ _ | with_reducible assumption | with_reducible apply Below.drew | with_reducible apply below_drewN | with_reducible apply Below.alloc | with_reducible apply Below.setCell | (with_reducible refine Below.trans ?_ (Below.mono (by assumption) ?_)) | (simp; done) | (simp; omega) | omega | with_reducible apply le_size_alloc | with_reducible apply le_size_drewN | with_reducible apply le_size_drew | with_reducible apply le_size_setCell | refine Nat.le_trans ?_ (Below.size (by assumption))))⟩
    case round =>
      obtain ⟨k, m, hk, rfl, hm, HR, hbw⟩ := hrel
      by_cases hlt : k < l.length
      · obtain ⟨b, off, x, rfl, hbl, hx, hc, hc1, hc2⟩ := (HA.out.ext hbw).at_ hlt
        have i1 : (k : Int) < l.length := by omega
        have HR' := HR.out
        rw [readG_at hx] at HR'
        have HX := Lib.hid hx
        clear hx HR
        cases d1 : decide (0 ≤ x.1 ∧ x.1 < 256) with
        | true =>
          cases d2 : decide (0 ≤ x.2.1 ∧ x.2.1 < 256) with
          | true =>
            by_cases hc0 : x.2.2 = 0
            · have hok : okW x = true := by simp [okW, d1, d2, hc0]
              rw [hc0] at hc2 HR'
              cases hcl : clashM m x.1 x.2.1 0 with
              | true =>
                have hz : readS l = (7, k, []) := by rw [HS.out, HR', if_pos hok, if_pos hcl]
                clear HR'
                go_wp2_with (first | (go_at_call 35; with_reducible refine (isSlot_b _ _ d1 _).mono ?_; rintro e w' ⟨rfl, rfl⟩) | (go_at_call 36; with_reducible refine (isFrame_b _ _ d2 _).mono ?_; rintro e w' ⟨rfl, rfl⟩) | (go_at_call 37; with_reducible refine (add_c _ m _ _ _ _ _ ?_).mono ?_; (exact hm.below_ (C := wr.heap.size) (by repeat' (first | with_reducible exact Below.refl _ _ | with_reducible assumption | with_reducible apply Below.drew | with_reducible apply below_drewN | with_reducible apply Below.alloc | with_reducible apply Below.setCell | (with_reducible refine Below.trans ?_ (Below.mono (by assumption) ?_)) | (simp; done) | (simp; omega) | omega | with_reducible apply le_size_alloc | with_reducible apply le_size_drewN | with_reducible apply le_size_drew | with_reducible apply le_size_setCell | refine Nat.le_trans ?_ (Below.size (by assumption)))) hm.lt); (try unfold addIf); rw [hcl]; rintro e w1 ⟨rfl, hm1, hg1⟩))
                refine bodyPost_ret (v := .tuple #[.map none, .int .i64 7, .int .i64 k]) (by simp [results, Try.results34, go_sem]) rfl ?_
                exact ReadPost.bad hz (by decide) (below_grown (by repeat' (first | with_reducible exact Below.refl _ _ | with_reducible assumption | with_reducible apply Below.drew | with_reducible apply below_drewN | with_reducible apply Below.alloc | with_reducible apply Below.setCell | (with_reducible refine Below.trans ?_ (Below.mono (by assumption) ?_)) | (simp; done) | (simp; omega) | omega | with_reducible apply le_size_alloc | with_reducible apply le_size_drewN | with_reducible apply le_size_drew | with_reducible apply le_size_setCell | refine Nat.le_trans ?_ (Below.size (by assumption)))) hg1 (Nat.le_refl _))
              | false =>
                rw [if_pos hok, hcl, if_neg (by simp)] at HR'
                have HR := Lib.hid HR'
                clear HR'
                go_wp2_with (first | (go_at_call 35; with_reducible refine (isSlot_b _ _ d1 _).mono ?_; rintro e w' ⟨rfl, rfl⟩) | (go_at_call 36; with_reducible refine (isFrame_b _ _ d2 _).mono ?_; rintro e w' ⟨rfl, rfl⟩) | (go_at_call 37; with_reducible refine (add_c _ m _ _ _ _ _ ?_).mono ?_; (exact hm.below_ (C := wr.heap.size) (by repeat' (first | with_reducible exact Below.refl _ _ | with_reducible assumption | with_reducible apply Below.drew | with_reducible apply below_drewN | with_reducible apply Below.alloc | with_reducible apply Below.setCell | (with_reducible refine Below.trans ?_ (Below.mono (by assumption) ?_)) | (simp; done) | (simp; omega) | omega | with_reducible apply le_size_alloc | with_reducible apply le_size_drewN | with_reducible apply le_size_drew | with_reducible apply le_size_setCell | refine Nat.le_trans ?_ (Below.size (by assumption)))) hm.lt); (try unfold addIf); rw [hcl]; rintro e w1 ⟨rfl, hm1, hg1⟩))
                go_roundw
                case rel => exact ⟨k + 1, _, by omega, by go_num, hm1, HR.out, below_grown (by repeat' (first | with_reducible exact Below.refl _ _ | with_reducible assumption | with_reducible apply Below.drew | with_reducible apply below_drewN | with_reducible apply Below.alloc | with_reducible apply Below.setCell | (with_reducible refine Below.trans ?_ (Below.mono (by assumption) ?_)) | (simp; done) | (simp; omega) | omega | with_reducible apply le_size_alloc | with_reducible apply le_size_drewN | with_reducible apply le_size_drew | with_reducible apply le_size_setCell | refine Nat.le_trans ?_ (Below.size (by assumption)))) hg1 (Nat.le_refl _)⟩
                case measure => simp [intOf]; omega
            · cases d3 : decide (1 ≤ x.2.2 ∧ x.2.2 ≤ 8) with
              | true =>
                have hok : okW x = true := by simp [okW, d1, d2, d3]
                cases hcl : clashM m x.1 x.2.1 x.2.2 with
                | true =>
                  have hz : readS l = (7, k, []) := by rw [HS.out, HR', if_pos hok, if_pos hcl]
                  clear HR'
                  go_wp2_with (first | (go_at_call 35; with_reducible refine (isSlot_b _ _ d1 _).mono ?_; rintro e w' ⟨rfl, rfl⟩) | (go_at_call 36; with_reducible refine (isFrame_b _ _ d2 _).mono ?_; rintro e w' ⟨rfl, rfl⟩) | (go_at_call 42; with_reducible refine (isProc_b _ _ d3 _).mono ?_; rintro e w' ⟨rfl, rfl⟩) | (go_at_call 37; with_reducible refine (add_c _ m _ _ _ _ _ ?_).mono ?_; (exact hm.below_ (C := wr.heap.size) (by repeat' (first | with_reducible exact Below.refl _ _ | with_reducible assumption | with_reducible apply Below.drew | with_reducible apply below_drewN | with_reducible apply Below.alloc | with_reducible apply Below.setCell | (with_reducible refine Below.trans ?_ (Below.mono (by assumption) ?_)) | (simp; done) | (simp; omega) | omega | with_reducible apply le_size_alloc | with_reducible apply le_size_drewN | with_reducible apply le_size_drew | with_reducible apply le_size_setCell | refine Nat.le_trans ?_ (Below.size (by assumption)))) hm.lt); (try unfold addIf); rw [hcl]; rintro e w1 ⟨rfl, hm1, hg1⟩))
                  refine bodyPost_ret (v := .tuple #[.map none, .int .i64 7, .int .i64 k]) (by simp [results, Try.results34, go_sem]) rfl ?_
                  exact ReadPost.bad hz (by decide) (below_grown (by repeat' (first | with_reducible exact Below.refl _ _ | with_reducible assumption | with_reducible apply Below.drew | with_reducible apply below_drewN | with_reducible apply Below.alloc | with_reducible apply Below.setCell | (with_reducible refine Below.trans ?_ (Below.mono (by assumption) ?_)) | (simp; done) | (simp; omega) | omega | with_reducible apply le_size_alloc | with_reducible apply le_size_drewN | with_reducible apply le_size_drew | with_reducible apply le_size_setCell | refine Nat.le_trans ?_ (Below.size (by assumption)))) hg1 (Nat.le_refl _))
                | false =>
                  rw [if_pos hok, hcl, if_neg (by simp)] at HR'
                  have HR := Lib.hid HR'
                  clear HR'
                  go_wp2_with (first | (go_at_call 35; with_reducible refine (isSlot_b _ _ d1 _).mono ?_; rintro e w' ⟨rfl, rfl⟩) | (go_at_call 36; with_reducible refine (isFrame_b _ _ d2 _).mono ?_; rintro e w' ⟨rfl, rfl⟩) | (go_at_call 42; with_reducible refine (isProc_b _ _ d3 _).mono ?_; rintro e w' ⟨rfl, rfl⟩) | (go_at_call 37; with_reducible refine (add_c _ m _ _ _ _ _ ?_).mono ?_; (exact hm.below_ (C := wr.heap.size) (by repeat' (first | with_reducible exact Below.refl _ _ | with_reducible assumption | with_reducible apply Below.drew | with_reducible apply below_drewN | with_reducible apply Below.alloc | with_reducible apply Below.setCell | (with_reducible refine Below.trans ?_ (Below.mono (by assumption) ?_)) | (simp; done) | (simp; omega) | omega | with_reducible apply le_size_alloc | with_reducible apply le_size_drewN | with_reducible apply le_size_drew | with_reducible apply le_size_setCell | refine Nat.le_trans ?_ (Below.size (by assumption)))) hm.lt); (try unfold addIf); rw [hcl]; rintro e w1 ⟨rfl, hm1, hg1⟩))
                  go_roundw
                  case rel => exact ⟨k + 1, _, by omega, by go_num, hm1, HR.out, below_grown (by repeat' (first | with_reducible exact Below.refl _ _ | with_reducible assumption | with_reducible apply Below.drew | with_reducible apply below_drewN | with_reducible apply Below.alloc | with_reducible apply Below.setCell | (with_reducible refine Below.trans ?_ (Below.mono (by assumption) ?_)) | (simp; done) | (simp; omega) | omega | with_reducible apply le_size_alloc | with_reducible apply le_size_drewN | with_reducible apply le_size_drew | with_reducible apply le_size_setCell | refine Nat.le_trans ?_ (Below.size (by assumption)))) hg1 (Nat.le_refl _)⟩
                  case measure => simp [intOf]; omega
              | false =>
                have hz : readS l = (2, k, []) := by rw [HS.out, HR', if_neg (by simp [okW, d1, d2, d3, hc0])]
                clear HR'
                go_wp2_with (first | (go_at_call 35; with_reducible refine (isSlot_b _ _ d1 _).mono ?_; rintro e w' ⟨rfl, rfl⟩) | (go_at_call 36; with_reducible refine (isFrame_b _ _ d2 _).mono ?_; rintro e w' ⟨rfl, rfl⟩) | (go_at_call 42; with_reducible refine (isProc_b _ _ d3 _).mono ?_; rintro e w' ⟨rfl, rfl⟩))
                refine bodyPost_ret (v := .tuple #[.map none, .int .i64 2, .int .i64 k]) (by simp [results, Try.results34, go_sem]) rfl ?_
                exact ReadPost.bad hz (by decide) (by repeat' (first | with_reducible exact Below.refl _ _ | with_reducible assumption | with_reducible apply Below.drew | with_reducible apply below_drewN | with_reducible apply Below.alloc | with_reducible apply Below.setCell | (with_reducible refine Below.trans ?_ (Below.mono (by assumption) ?_)) | (simp; done) | (simp; omega) | omega | with_reducible apply le_size_alloc | with_reducible apply le_size_drewN | with_reducible apply le_size_drew | with_reducible apply le_size_setCell | refine Nat.le_trans ?_ (Below.size (by assumption))))
          | false =>
            have hz : readS l = (2, k, []) := by rw [HS.out, HR', if_neg (by simp [okW, d1, d2])]
            clear HR'
            go_wp2_with (first | (go_at_call 35; with_reducible refine (isSlot_b _ _ d1 _).mono ?_; rintro e w' ⟨rfl, rfl⟩) | (go_at_call 36; with_reducible refine (isFrame_b _ _ d2 _).mono ?_; rintro e w' ⟨rfl, rfl⟩))
            refine bodyPost_ret (v := .tuple #[.map none, .int .i64 2, .int .i64 k]) (by simp [results, Try.results34, go_sem]) rfl ?_
            exact ReadPost.bad hz (by decide) (by repeat' (first | with_reducible exact Below.refl _ _ | with_reducible assumption | with_reducible apply Below.drew | with_reducible apply below_drewN | with_reducible apply Below.alloc | with_reducible apply Below.setCell | (with_reducible refine Below.trans ?_ (Below.mono (by assumption) ?_)) | (simp; done) | (simp; omega) | omega | with_reducible apply le_size_alloc | with_reducible apply le_size_drewN | with_reducible apply le_size_drew | with_reducible apply le_size_setCell | refine Nat.le_trans ?_ (Below.size (by assumption))))
        | false =>
          have hz : readS l = (2, k, []) := by rw [HS.out, HR', if_neg (by simp [okW, d1])]
          clear HR'
          go_wp2_with (first | (go_at_call 35; with_reducible refine (isSlot_b _ _ d1 _).mono ?_; rintro e w' ⟨rfl, rfl⟩))
          refine bodyPost_ret (v := .tuple #[.map none, .int .i64 2, .int .i64 k]) (by simp [results, Try.results34, go_sem]) rfl ?_
          exact ReadPost.bad hz (by decide) (by repeat' (first | with_reducible exact Below.refl _ _ | with_reducible assumption | with_reducible apply Below.drew | with_reducible apply below_drewN | with_reducible apply Below.alloc | with_reducible apply Below.setCell | (with_reducible refine Below.trans ?_ (Below.mono (by assumption) ?_)) | (simp; done) | (simp; omega) | omega | with_reducible apply le_size_alloc | with_reducible apply le_size_drewN | with_reducible apply le_size_drew | with_reducible apply le_size_setCell | refine Nat.le_trans ?_ (Below.size (by assumption))))
      · have hd : l.drop k = [] := List.drop_eq_nil_of_le (by omega)
        have hz : readS l = (0, 0, m) := by rw [HS.out, HR.out, hd, readG]
        clear hd HR HS
        have HZ := Lib.hid hz
        clear hz
        go_wp2
        refine bodyPost_ret (v := .tuple #[.map (some w.heap.size), .int .i64 0, .int .i64 (0 : Nat)]) (by simp [results, Try.results34, go_sem]) rfl ?_
        exact ReadPost.good HZ.out (Nat.le_refl _) hm (by repeat' (first | with_reducible exact Below.refl _ _ | with_reducible assumption | with_reducible apply Below.drew | with_reducible apply below_drewN | with_reducible apply Below.alloc | with_reducible apply Below.setCell | (with_reducible refine Below.trans ?_ (Below.mono (by assumption) ?_)) | (simp; done) | (simp; omega) | omega | with_reducible apply le_size_alloc | with_reducible apply le_size_drewN | with_reducible apply le_size_drew | with_reducible apply le_size_setCell | refine Nat.le_trans ?_ (Below.size (by assumption))))
end Go.Proofs.Ytnglompninkmbaa
