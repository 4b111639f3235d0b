/- Contracts of the law package's own helpers: two, is, awake, made. -/
import Derived.Test.YtnglompninkmbaaHeldD
import Derived.Test.YtnglompninkmbaaKit
namespace Go.Proofs.Ytnglompninkmbaa
open Go.RowKit Go.Maps

set_option maxHeartbeats 1000000 in
theorem two_any (k : Int) (w : World) : Calls Try.prog 32 #[.int .i64 k] w (WsPost [(3, 40, 0), (5, 41, k)] w) := by
  go_enter Try.func32, Try.ntmps32
  go_wp2
  go_ret
  refine ⟨_, _, rfl, ⟨?_, by simp⟩, (by repeat' (first | with_reducible exact Below.refl _ _ | with_reducible assumption | with_reducible apply Below.drew | with_reducible apply below_drewN | with_reducible apply Below.alloc | with_reducible apply Below.setCell | (with_reducible refine Below.trans ?_ (Below.mono (by assumption) ?_)) | (simp; done) | (simp; omega) | omega | with_reducible apply le_size_alloc | with_reducible apply le_size_drewN | with_reducible apply le_size_drew | with_reducible apply le_size_setCell | refine Nat.le_trans ?_ (Below.size (by assumption))))⟩
  have hB : Blk (w.alloc (.cells #[.int .i64 3, .int .i64 40, .int .i64 0, .int .i64 5, .int .i64 41, .int .i64 k] 28)) w.heap.size 28 #[.int .i64 3, .int .i64 40, .int .i64 0, .int .i64 5, .int .i64 41, .int .i64 k] := Blk.new_ rfl rfl
  exact Sl.of_lit (xs := [3, 40, 0, 5, 41, k]) hB

set_option maxHeartbeats 1000000 in
theorem is_any (A B : Option Addr) (c d : Nat) (l k : List Wr) (z : Int) (w : World) (ha : SW w A l) (hb : SW w B k) (la : l.length ≤ 1000) (lb : k.length ≤ 1000) {b : Bool} (h : (decide (z = 0) && decide (l = k)) = b) :
    Calls Try.prog 17 #[.slice A l.length c, .slice B k.length d, .int .i64 z] w fun e w' => e = .returned (.bool b) ∧ Below w.heap.size w w' := by
  have HA := Lib.hid ha; have HB := Lib.hid hb; have H := Lib.hid h
  clear ha hb h
  by_cases hz : z = 0
  · subst hz
    go_enter Try.func17, Try.ntmps17
    go_wp2_with (first | (go_at_call 13; with_reducible refine (SameWrites_any _ _ _ _ _ _ _ HA.out HB.out la lb).mono ?_; rintro e w1 ⟨rfl, hb1⟩))
    all_goals
      go_ret
      refine ⟨ret_bool ?_, (by repeat' (first | with_reducible exact Below.refl _ _ | with_reducible assumption | with_reducible apply Below.drew | with_reducible apply below_drewN | with_reducible apply Below.alloc | with_reducible apply Below.setCell | (with_reducible refine Below.trans ?_ (Below.mono (by assumption) ?_)) | (simp; done) | (simp; omega) | omega | with_reducible apply le_size_alloc | with_reducible apply le_size_drewN | with_reducible apply le_size_drew | with_reducible apply le_size_setCell | refine Nat.le_trans ?_ (Below.size (by assumption))))⟩
      have := H.out
      simp_all
  · have hzb : (z == 0) = false := by simpa using hz
    go_enter Try.func17, Try.ntmps17
    go_wp2
    go_ret
    refine ⟨ret_bool ?_, (by repeat' (first | with_reducible exact Below.refl _ _ | with_reducible assumption | with_reducible apply Below.drew | with_reducible apply below_drewN | with_reducible apply Below.alloc | with_reducible apply Below.setCell | (with_reducible refine Below.trans ?_ (Below.mono (by assumption) ?_)) | (simp; done) | (simp; omega) | omega | with_reducible apply le_size_alloc | with_reducible apply le_size_drewN | with_reducible apply le_size_drew | with_reducible apply le_size_setCell | refine Nat.le_trans ?_ (Below.size (by assumption))))⟩
    have := H.out
    simp_all

set_option maxRecDepth 100000 in
set_option maxHeartbeats 1000000 in
theorem awake_any (w : World) : Calls Try.prog 10 #[] w fun e w' => e = .returned (.bool true) ∧ Below w.heap.size w w' := by
  have h1 : Hid (addS [] 3 40 = ([(3, 40, 0)], 0)) := by show _ = _; decide
  have h2 : Hid (addS [(3, 40, 0)] 5 41 = ([(3, 40, 0), (5, 41, 0)], 0)) := by show _ = _; decide
  have h3 : Hid (claS [(3, 40, 0), (5, 41, 0)] 5 2 = ([(3, 40, 0), (5, 41, 2)], 0)) := by show _ = _; decide
  go_enter Try.func10, Try.ntmps10
  go_wp2_with fail
  refine (Add_any none 0 [] 3 40 w CW.nil (by simp)).mono ?_
  unfold AddPost
  rw [h1.out]
  rintro e w1 ⟨A1, c1, rfl, hc1, hb1⟩
  go_wp2_with fail
  refine (Add_any A1 c1 [(3, 40, 0)] 5 41 w1 hc1 (by simp)).mono ?_
  unfold AddPost
  rw [h2.out]
  rintro e w2 ⟨A2, c2, rfl, hc2, hb2⟩
  go_wp2_with fail
  refine (Claim_any A2 c2 [(3, 40, 0), (5, 41, 0)] 5 2 w2 hc2.1 (by simp)).mono ?_
  unfold AddPost
  rw [h3.out]
  rintro e w3 ⟨A3, c3, rfl, hc3, hb3⟩
  go_wp2_with fail
  refine (two_any 0 _).mono ?_
  rintro e w4 ⟨B1, d1, rfl, hd1, hb4⟩
  go_wp2_with fail
  refine (is_any A2 B1 c2 d1 [(3, 40, 0), (5, 41, 0)] [(3, 40, 0), (5, 41, 0)] 0 w4 (hc2.1.ext (by repeat' (first | with_reducible exact Below.refl _ _ | with_reducible assumption | with_reducible apply Below.drew | with_reducible apply below_drewN | with_reducible apply Below.alloc | with_reducible apply Below.setCell | (with_reducible refine Below.trans ?_ (Below.mono (by assumption) ?_)) | (simp; done) | (simp; omega) | omega | with_reducible apply le_size_alloc | with_reducible apply le_size_drewN | with_reducible apply le_size_drew | with_reducible apply le_size_setCell | refine Nat.le_trans ?_ (Below.size (by assumption))))) hd1.1 (by simp) (by simp) (b := true) (by decide)).mono ?_
  rintro e w5 ⟨rfl, hb5⟩
  go_wp2_with fail
  refine (two_any 2 _).mono ?_
  rintro e w6 ⟨B2, d2, rfl, hd2, hb6⟩
  go_wp2_with fail
  refine (is_any A3 B2 c3 d2 [(3, 40, 0), (5, 41, 2)] [(3, 40, 0), (5, 41, 2)] 0 w6 (hc3.1.ext (by repeat' (first | with_reducible exact Below.refl _ _ | with_reducible assumption | with_reducible apply Below.drew | with_reducible apply below_drewN | with_reducible apply Below.alloc | with_reducible apply Below.setCell | (with_reducible refine Below.trans ?_ (Below.mono (by assumption) ?_)) | (simp; done) | (simp; omega) | omega | with_reducible apply le_size_alloc | with_reducible apply le_size_drewN | with_reducible apply le_size_drew | with_reducible apply le_size_setCell | refine Nat.le_trans ?_ (Below.size (by assumption))))) hd2.1 (by simp) (by simp) (b := true) (by decide)).mono ?_
  rintro e w7 ⟨rfl, hb7⟩
  go_wp2_with fail
  go_ret
  exact ⟨rfl, (by repeat' (first | with_reducible exact Below.refl _ _ | with_reducible assumption | with_reducible apply Below.drew | with_reducible apply below_drewN | with_reducible apply Below.alloc | with_reducible apply Below.setCell | (with_reducible refine Below.trans ?_ (Below.mono (by assumption) ?_)) | (simp; done) | (simp; omega) | omega | with_reducible apply le_size_alloc | with_reducible apply le_size_drewN | with_reducible apply le_size_drew | with_reducible apply le_size_setCell | refine Nat.le_trans ?_ (Below.size (by assumption))))⟩

theorem take_one {nums : List Int} {k : Nat} {x : Int} (h : nums[k]? = some x) : nums.take (k + 1) = nums.take k ++ [x] := by
  obtain ⟨hk, rfl⟩ := List.getElem?_eq_some_iff.1 h
  exact List.take_succ_eq_append_getElem hk
theorem madeS_succ {nums : List Int} {k : Nat} {x : Int} (h : nums[k]? = some x) : madeFrom 0 (nums.take (k + 1)) = madeFrom 0 (nums.take k) ++ [wrOf k x] := by
  have hk := (List.getElem?_eq_some_iff.1 h).1
  rw [take_one h, madeFrom_snoc, show 0 + (nums.take k).length = k by simp; omega]
theorem made_len {nums : List Int} {k : Nat} (h : k ≤ nums.length) : (madeFrom 0 (nums.take k)).length = k := by rw [madeFrom_length]; simp; omega

set_option maxRecDepth 100000 in
set_option maxHeartbeats 4000000 in
theorem made_any (A : Option Addr) (c : Nat) (nums : List Int) (w : World) (hn : Sl w (.int .i64) A nums) (hln : nums.length ≤ 9223372036854775807) :
    Calls Try.prog 9 #[.slice A nums.length c] w (WsPost (madeS nums) w) := by
  have HN := Lib.hid hn
  clear hn
  go_enter Try.func9, Try.ntmps9
  go_wp2
  go_loopw [3, 4] (fun v i wr => ∃ k : Nat, k ≤ 16 ∧ k ≤ nums.length ∧ i = .int .i64 k ∧ ∃ A c, v = .slice A k c ∧ CanApp wr w.heap.size A c (madeFrom 0 (nums.take k)) ∧ Below w.heap.size w wr) (fun _ i _ => 16 - (intOf i).toNat)
  case atStart => exact ⟨0, by omega, by omega, rfl, none, 0, rfl, .inl ⟨rfl, SW.nil⟩, Below.refl _ _⟩
  case round =>
    obtain ⟨k, hk, hkn, rfl, A1, c1, rfl, hc1, hbw⟩ := hrel
    have hml := made_len hkn
    by_cases hk' : k < 16
    · by_cases hlt : k < nums.length
      · obtain ⟨b, off, x, rfl, hbl, hx, hc⟩ := (HN.out.ext hbw).at_ hlt
        have i1 : (k : Int) < nums.length := by omega
        have i2 : (k : Int) < 16 := by omega
        have m0 : 0 ≤ x % 1048576 := Int.emod_nonneg _ (by decide)
        have m1 : x % 1048576 < 1048576 := Int.emod_lt_of_pos _ (by decide)
        obtain ⟨y, hy⟩ : ∃ y, x % 1048576 = y := ⟨_, rfl⟩
        have HC := Lib.hid hc1; have HX := Lib.hid hx; have HY := Lib.hid hy; have HM := Lib.hid hml
        rw [hy] at m0 m1
        clear hc1 hx hy hml
        by_cases h3 : y % 3 = 0
        · by_cases h8 : k < 8
          · have i3 : (k : Int) < 8 := by omega
            have hwr : Hid (wrOf k x = ((11 * (k : Int) + 3) % 48, (13 * (k : Int) + 7) % 64, 1 + (3 * (k : Int) + 1) % 8)) := by
              show _ = _; unfold wrOf; rw [if_pos ⟨by rw [HY.out]; exact h3, h8⟩]
            go_wp2_with (first | (go_at_call 11; refine (Mod_any _ _ _ (by omega) (by omega)).mono ?_; rw [HY.out]; rintro e w' ⟨rfl, rfl⟩) | (at_builtin; refine wpList_appW rfl (.tmp 44) (.tmp 46) rfl _ w.heap.size ?_ A1 c1 k (madeFrom 0 (nums.take k)) HM.out.symm (HC.out.ext ?_) _ 1 1 [((11 * (k : Int) + 3) % 48, (13 * (k : Int) + 7) % 64, 1 + (3 * (k : Int) + 1) % 8)] rfl (SW.one (t := 28) ?_) (by rw [HM.out]; simp; omega) rfl rfl ?_; (exact Nat.le_trans hbw.size (by simp; omega)); (exact (by repeat' (first | with_reducible exact Below.refl _ _ | with_reducible assumption | with_reducible apply Below.drew | with_reducible apply below_drewN | with_reducible apply Below.alloc | with_reducible apply Below.setCell | (with_reducible refine Below.trans ?_ (Below.mono (by assumption) ?_)) | (simp; done) | (simp; omega) | omega | with_reducible apply le_size_alloc | with_reducible apply le_size_drewN | with_reducible apply le_size_drew | with_reducible apply le_size_setCell | refine Nat.le_trans ?_ (Below.size (by assumption))))); (exact (by repeat' (first | with_reducible assumption | (with_reducible refine Blk.new_ ?_ ?_ <;> first | (simp; done) | rfl) | with_reducible apply Blk.drew_ | with_reducible apply Blk.drewN_ | with_reducible apply Blk.alloc_ | with_reducible refine Blk.far_ ?_ ?_ _ | (with_reducible refine Blk.below_ ?_ (by assumption) ?_) | (simp; done) | (simp; omega) | omega | with_reducible apply le_size_alloc | with_reducible apply lt_size_alloc | with_reducible apply le_size_drewN | with_reducible apply le_size_drew | with_reducible apply le_size_setCell | refine Nat.lt_of_lt_of_le ?_ (Below.size (by assumption)) | refine Nat.le_trans ?_ (Below.size (by assumption))))); intro A2 c2 w2 hc2 hb2 _))
            go_roundw
            case rel =>
              rw [← hwr.out, ← madeS_succ HX.out] at hc2
              exact ⟨k + 1, by omega, by omega, by go_num, A2, c2, by rw [HM.out], hc2, (by repeat' (first | with_reducible exact Below.refl _ _ | with_reducible assumption | with_reducible apply Below.drew | with_reducible apply below_drewN | with_reducible apply Below.alloc | with_reducible apply Below.setCell | (with_reducible refine Below.trans ?_ (Below.mono (by assumption) ?_)) | (simp; done) | (simp; omega) | omega | with_reducible apply le_size_alloc | with_reducible apply le_size_drewN | with_reducible apply le_size_drew | with_reducible apply le_size_setCell | refine Nat.le_trans ?_ (Below.size (by assumption))))⟩
            case measure => simp [intOf]; omega
          · have i3 : (8 : Int) ≤ k := by omega
            have hwr : Hid (wrOf k x = ((11 * (k : Int) + 3) % 48, (13 * (k : Int) + 7) % 64, 0)) := by
              show _ = _; unfold wrOf; rw [if_neg (fun h => h8 h.2)]
            go_wp2_with (first | (go_at_call 11; refine (Mod_any _ _ _ (by omega) (by omega)).mono ?_; rw [HY.out]; rintro e w' ⟨rfl, rfl⟩) | (at_builtin; refine wpList_appW rfl (.tmp 44) (.tmp 46) rfl _ w.heap.size ?_ A1 c1 k (madeFrom 0 (nums.take k)) HM.out.symm (HC.out.ext ?_) _ 1 1 [((11 * (k : Int) + 3) % 48, (13 * (k : Int) + 7) % 64, 0)] rfl (SW.one (t := 28) ?_) (by rw [HM.out]; simp; omega) rfl rfl ?_; (exact Nat.le_trans hbw.size (by simp; omega)); (exact (by repeat' (first | with_reducible exact Below.refl _ _ | with_reducible assumption | with_reducible apply Below.drew | with_reducible apply below_drewN | with_reducible apply Below.alloc | with_reducible apply Below.setCell | (with_reducible refine Below.trans ?_ (Below.mono (by assumption) ?_)) | (simp; done) | (simp; omega) | omega | with_reducible apply le_size_alloc | with_reducible apply le_size_drewN | with_reducible apply le_size_drew | with_reducible apply le_size_setCell | refine Nat.le_trans ?_ (Below.size (by assumption))))); (exact (by repeat' (first | with_reducible assumption | (with_reducible refine Blk.new_ ?_ ?_ <;> first | (simp; done) | rfl) | with_reducible apply Blk.drew_ | with_reducible apply Blk.drewN_ | with_reducible apply Blk.alloc_ | with_reducible refine Blk.far_ ?_ ?_ _ | (with_reducible refine Blk.below_ ?_ (by assumption) ?_) | (simp; done) | (simp; omega) | omega | with_reducible apply le_size_alloc | with_reducible apply lt_size_alloc | with_reducible apply le_size_drewN | with_reducible apply le_size_drew | with_reducible apply le_size_setCell | refine Nat.lt_of_lt_of_le ?_ (Below.size (by assumption)) | refine Nat.le_trans ?_ (Below.size (by assumption))))); intro A2 c2 w2 hc2 hb2 _))
            go_roundw
            case rel =>
              rw [← hwr.out, ← madeS_succ HX.out] at hc2
              exact ⟨k + 1, by omega, by omega, by go_num, A2, c2, by rw [HM.out], hc2, (by repeat' (first | with_reducible exact Below.refl _ _ | with_reducible assumption | with_reducible apply Below.drew | with_reducible apply below_drewN | with_reducible apply Below.alloc | with_reducible apply Below.setCell | (with_reducible refine Below.trans ?_ (Below.mono (by assumption) ?_)) | (simp; done) | (simp; omega) | omega | with_reducible apply le_size_alloc | with_reducible apply le_size_drewN | with_reducible apply le_size_drew | with_reducible apply le_size_setCell | refine Nat.le_trans ?_ (Below.size (by assumption))))⟩
            case measure => simp [intOf]; omega
        · have hwr : Hid (wrOf k x = ((11 * (k : Int) + 3) % 48, (13 * (k : Int) + 7) % 64, 0)) := by
            show _ = _; unfold wrOf; rw [if_neg (fun h => h3 (by rw [← HY.out]; exact h.1))]
          go_wp2_with (first | (go_at_call 11; refine (Mod_any _ _ _ (by omega) (by omega)).mono ?_; rw [HY.out]; rintro e w' ⟨rfl, rfl⟩) | (at_builtin; refine wpList_appW rfl (.tmp 44) (.tmp 46) rfl _ w.heap.size ?_ A1 c1 k (madeFrom 0 (nums.take k)) HM.out.symm (HC.out.ext ?_) _ 1 1 [((11 * (k : Int) + 3) % 48, (13 * (k : Int) + 7) % 64, 0)] rfl (SW.one (t := 28) ?_) (by rw [HM.out]; simp; omega) rfl rfl ?_; (exact Nat.le_trans hbw.size (by simp; omega)); (exact (by repeat' (first | with_reducible exact Below.refl _ _ | with_reducible assumption | with_reducible apply Below.drew | with_reducible apply below_drewN | with_reducible apply Below.alloc | with_reducible apply Below.setCell | (with_reducible refine Below.trans ?_ (Below.mono (by assumption) ?_)) | (simp; done) | (simp; omega) | omega | with_reducible apply le_size_alloc | with_reducible apply le_size_drewN | with_reducible apply le_size_drew | with_reducible apply le_size_setCell | refine Nat.le_trans ?_ (Below.size (by assumption))))); (exact (by repeat' (first | with_reducible assumption | (with_reducible refine Blk.new_ ?_ ?_ <;> first | (simp; done) | rfl) | with_reducible apply Blk.drew_ | with_reducible apply Blk.drewN_ | with_reducible apply Blk.alloc_ | with_reducible refine Blk.far_ ?_ ?_ _ | (with_reducible refine Blk.below_ ?_ (by assumption) ?_) | (simp; done) | (simp; omega) | omega | with_reducible apply le_size_alloc | with_reducible apply lt_size_alloc | with_reducible apply le_size_drewN | with_reducible apply le_size_drew | with_reducible apply le_size_setCell | refine Nat.lt_of_lt_of_le ?_ (Below.size (by assumption)) | refine Nat.le_trans ?_ (Below.size (by assumption))))); intro A2 c2 w2 hc2 hb2 _))
          go_roundw
          case rel =>
            rw [← hwr.out, ← madeS_succ HX.out] at hc2
            exact ⟨k + 1, by omega, by omega, by go_num, A2, c2, by rw [HM.out], hc2, (by repeat' (first | with_reducible exact Below.refl _ _ | with_reducible assumption | with_reducible apply Below.drew | with_reducible apply below_drewN | with_reducible apply Below.alloc | with_reducible apply Below.setCell | (with_reducible refine Below.trans ?_ (Below.mono (by assumption) ?_)) | (simp; done) | (simp; omega) | omega | with_reducible apply le_size_alloc | with_reducible apply le_size_drewN | with_reducible apply le_size_drew | with_reducible apply le_size_setCell | refine Nat.le_trans ?_ (Below.size (by assumption))))⟩
          case measure => simp [intOf]; omega
      · have hS : madeS nums = madeFrom 0 (nums.take k) := by unfold madeS; rw [List.take_of_length_le (by omega), List.take_of_length_le (by omega)]
        have i1 : (nums.length : Int) ≤ k := by omega
        have HS := Lib.hid hS
        clear hS
        go_wp2
        go_ret
        refine ⟨A1, c1, ?_, ?_, hbw⟩
        · rw [HS.out, hml]; rfl
        · rw [HS.out]; exact hc1.cw
    · obtain rfl : k = 16 := by omega
      go_wp2
      all_goals
        go_ret
        refine ⟨A1, c1, ?_, hc1.cw, hbw⟩
        show _ = Ending.returned (.slice A1 (madeFrom 0 (nums.take 16)).length c1)
        rw [hml]
        rfl
end Go.Proofs.Ytnglompninkmbaa
