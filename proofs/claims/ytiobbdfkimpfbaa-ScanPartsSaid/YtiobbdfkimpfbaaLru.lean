/- Contracts of the package lru: what each function gives back for lists that read as plain lists. -/
import Derived.Test.YtiobbdfkimpfbaaLruSpec
namespace Go.Proofs.Ytiobbdfkimpfbaa
set_option linter.unusedSimpArgs false
set_option linter.unusedVariables false
open Go.RowKit Go.Maps

set_option maxHeartbeats 400000 in
theorem within_any (va vi : Value) (Ar : Option Addr) (n cr : Nat) (f : Int) (w : World) (_hn : n ≤ 9223372036854775807) :
    Calls Try.prog 60 #[.agg #[va, vi, .slice Ar n cr], .int .i64 f] w fun e w' =>
      e = .returned (.bool (decide (0 ≤ f ∧ f < n))) ∧ Below w.heap.size w w' := by
  by_cases h0 : 0 ≤ f
  · by_cases h1 : f < n
    all_goals
      go_enter Try.func60, Try.ntmps60
      go_wp2
      go_ret
      exact ⟨ret_bool (by simp; omega), (Below.refl _ _).alloc (Nat.le_refl _) _⟩
  · go_enter Try.func60, Try.ntmps60
    go_wp2
    go_ret
    exact ⟨ret_bool (by simp; omega), (Below.refl _ _).alloc (Nat.le_refl _) _⟩

theorem idx0 (x y : Value) (w : World) : (Instr.index 87 (.agg #[x, y]) (.int .i64 0)).run Try.prog w = .ok x w := by kernel_rfl
theorem idx1 (x y : Value) (w : World) : (Instr.index 87 (.agg #[x, y]) (.int .i64 1)).run Try.prog w = .ok y w := by kernel_rfl
theorem zeroInt (w : World) : (zeroValue 3).run Try.prog w = .ok (.int .i64 0) w := by kernel_rfl

/-- The frames of the first j of the two lists. -/
def pre2 (xs ys : List Int) (j : Int) : List Int := if j = 0 then [] else if j = 1 then xs else xs ++ ys

set_option maxHeartbeats 1000000 in
theorem Check_any (Aa Ai Ar : Option Addr) (ca ci cr : Nat) (xs ys : List Int) (rs : List Bool) (w : World)
    (ha : Sl w (.int .i64) Aa xs) (hi : Sl w (.int .i64) Ai ys) (hr : Sl w .bool Ar rs)
    (hla : xs.length ≤ 140737488351232) (hli : ys.length ≤ 140737488351232) (hlr : rs.length ≤ 140737488351232)
    (hwa : ∀ x ∈ xs, (Lit.int .i64 x).wf = true) (hwi : ∀ x ∈ ys, (Lit.int .i64 x).wf = true) :
    Calls Try.prog 32 #[.agg #[.slice Aa xs.length ca, .slice Ai ys.length ci, .slice Ar rs.length cr]] w fun e w' =>
      e = .returned (.int .i64 (lruChk xs ys rs)) ∧ Below w.heap.size w w' := by
  by_cases hs1 : rs.length < 1
  · go_enter Try.func32, Try.ntmps32
    go_wp2
    go_ret
    exact ⟨ret_int (lruChk_size (.inl hs1)).symm, (Below.refl _ _).alloc (Nat.le_refl _) _⟩
  by_cases hs2 : 256 < rs.length
  · go_enter Try.func32, Try.ntmps32
    go_wp2
    go_ret
    exact ⟨ret_int (lruChk_size (.inr hs2)).symm, (Below.refl _ _).alloc (Nat.le_refl _) _⟩
  have hsz : ¬ (rs.length < 1 ∨ 256 < rs.length) := by omega
  have hmm := @run_makeMap Try.prog
  have HA := Lib.hid ha; have HI := Lib.hid hi; have HR := Lib.hid hr
  have HWA := Lib.hid hwa; have HWI := Lib.hid hwi
  have HSZ := Lib.hid hsz
  clear ha hi hr hwa hwi hsz
  have hd1 : decide ((rs.length : Int) < 1) = false := by simp; omega
  have hd2 : decide ((256 : Int) < rs.length) = false := by simp; omega
  go_enter Try.func32, Try.ntmps32
  go_wp2
  go_loopw [26] (fun i wr => ∃ j : Int, 0 ≤ j ∧ j ≤ 2 ∧ i = .int .i64 j ∧ IM Try.prog 3 3 wr (w.heap.size + 1) (pre2 xs ys j).length (ind (pre2 xs ys j)) ∧
      Below (w.heap.size + 1) (w.alloc (.cells #[.slice Aa xs.length ca, .slice Ai ys.length ci, .slice Ar rs.length cr] 25)) wr ∧
      Hid (lruScan rs.length [] (pre2 xs ys j) = none)) (fun i _ => 2 - (intOf i).toNat)
  case atStart => exact ⟨0, by omega, by omega, rfl, IM.made' _ _ _ (by simp) (fun x => ind_nil x), (Below.refl _ _).alloc (by simp) _, rfl⟩
  case round =>
    obtain ⟨j, hj0, hj, rfl, him, hb, HS⟩ := hrel
    obtain ⟨wo, rfl⟩ : ∃ wo : World, wo = wr := ⟨_, rfl⟩
    rcases (by omega : j = 0 ∨ j = 1 ∨ j = 2) with rfl | rfl | rfl
    · have i0 := idx0
      have hB0 := hb.cell (p := ⟨w.heap.size, 0, none⟩) (by simp)
      have hpl : ([] : List Int).length ≤ 140737488351232 := by first | (simp; done) | omega
      go_wp2
      go_loopw [31] (fun i wr => ∃ k : Nat, k ≤ xs.length ∧ i = .int .i64 k ∧ IM Try.prog 3 3 wr (w.heap.size + 1) (([] : List Int).length + k) (ind (([] : List Int) ++ xs.take k)) ∧
          Below (w.heap.size + 1) (w.alloc (.cells #[.slice Aa xs.length ca, .slice Ai ys.length ci, .slice Ar rs.length cr] 25)) wr ∧
          Hid (lruScan rs.length [] (([] : List Int) ++ xs.take k) = none)) (fun i _ => xs.length - (intOf i).toNat)
      case atStart => exact ⟨0, by omega, rfl, by simpa [pre2] using him, hb, by simpa [pre2, Hid] using HS⟩
      case round =>
        obtain ⟨k, hk, rfl, hik, hbk, HSk⟩ := hrel
        clear hB0 him hb HS
        have hsz1 : w.heap.size + 1 ≤ wr.heap.size := by have := hbk.size; simpa using this
        by_cases hlt : k < xs.length
        · obtain ⟨b, off, x, rfl, hbl, hx, hc⟩ := HA.out.at_ hlt
          have HX := Lib.hid hx
          have hwx := HWA.out x (List.mem_of_getElem? hx)
          clear hx
          have hcx : wr.cell? ⟨b, off + k, none⟩ = some (.int .i64 x) := ((hbk.cell (p := ⟨b, off + k, none⟩) (by show b < _; omega)).trans (World.cell?_alloc_lt _ _ _ hbl)).trans hc
          clear hc
          have hB0 := hbk.cell (p := ⟨w.heap.size, 0, none⟩) (by simp)
          have hB1 := hbk.cell (p := ⟨w.heap.size, 1, none⟩) (by simp)
          have hB2 := hbk.cell (p := ⟨w.heap.size, 2, none⟩) (by simp)
          by_cases hin : 0 ≤ x ∧ x < rs.length
          · have hdec : decide (0 ≤ x ∧ x < (rs.length : Int)) = true := by simpa using hin
            have HIN := Lib.hid hin
            clear hin
            go_wp2_with fail
            refine (within_any _ _ _ _ _ _ _ (by omega)).mono ?_
            rintro e w1 ⟨rfl, hb1⟩
            clear hcx hB0 hB1 hB2
            have hi1 := hik.ext hb1
            have hb1' := hbk.trans (hb1.mono hsz1)
            have hsz2 : w.heap.size + 1 ≤ w1.heap.size := by have := hb1.size; omega
            by_cases hm : x ∈ ([] : List Int) ++ xs.take k
            · have HM := Lib.hid hm
              clear hm
              go_wp2_with (first
                | (at_lookup; refine wpList_look rfl (.tmp 39) (.tmp 40) rfl hi1 Try.underlying3 Try.underlying3 Try.underlying86 (zeroInt _) x hwx rfl rfl 1 (ind_yes HM.out) ?_)
                | (at_mapUpdate; refine wpList_upd rfl (.tmp 39) (.tmp 40) (.tmp 42) rfl hi1 Try.underlying3 Try.underlying3 Try.underlying86 (by unfold maxLen; omega) x 2 hwx (by decide) rfl rfl rfl (fun i => if i = x then 2 else ind (([] : List Int) ++ xs.take k) i) (fun _ => rfl) ?_; intro w2 hi2 hg2)
                | (at_lookup; refine wpList_look rfl (.tmp 43) (.tmp 44) rfl hi2 Try.underlying3 Try.underlying3 Try.underlying86 (zeroInt _) x hwx rfl rfl 2 (if_pos rfl) ?_))
              go_ret
              refine ⟨ret_int (lruChk_scan HSZ.out ?_).symm, ?_⟩
              · have e := lruScan_met rs.length _ x (xs.drop (k + 1) ++ ys) HSk.out HIN.out HM.out
                rw [List.append_assoc, ← List.cons_append, ← List.append_assoc (xs.take k), ← split_at' HX.out, List.nil_append] at e
                exact e
              · exact (((Below.refl _ _).alloc (Nat.le_refl _) _).trans (hb1'.mono (Nat.le_succ _))).grown hg2 (by omega) (fun k hk => by cases hk; exact Nat.le_succ _)
            · have HM := Lib.hid hm
              clear hm
              go_wp2_with (first
                | (at_lookup; refine wpList_look rfl (.tmp 39) (.tmp 40) rfl hi1 Try.underlying3 Try.underlying3 Try.underlying86 (zeroInt _) x hwx rfl rfl 0 (ind_no HM.out) ?_)
                | (at_mapUpdate; refine wpList_upd rfl (.tmp 39) (.tmp 40) (.tmp 42) rfl hi1 Try.underlying3 Try.underlying3 Try.underlying86 (by unfold maxLen; omega) x 1 hwx (by decide) rfl rfl rfl (ind (([] : List Int) ++ xs.take k ++ [x])) ind_snoc ?_; intro w2 hi2 hg2)
                | (at_lookup; refine wpList_look rfl (.tmp 43) (.tmp 44) rfl hi2 Try.underlying3 Try.underlying3 Try.underlying86 (zeroInt _) x hwx rfl rfl 1 (ind_yes (by simp)) ?_))
              go_roundw
              case rel =>
                have e := take_snoc' HX.out
                refine ⟨k + 1, by omega, by go_num, by rw [e, ← List.append_assoc]; exact hi2, hb1'.grown hg2 (by omega) (fun k hk => by cases hk; exact Nat.le_refl _), ?_⟩
                rw [e, ← List.append_assoc]
                exact lruScan_on _ _ _ HSk.out HIN.out HM.out
              case measure => simp [intOf]; omega
          · have hdec : decide (0 ≤ x ∧ x < (rs.length : Int)) = false := by simpa using hin
            have HIN := Lib.hid hin
            clear hin
            go_wp2_with fail
            refine (within_any _ _ _ _ _ _ _ (by omega)).mono ?_
            rintro e w1 ⟨rfl, hb1⟩
            clear hcx hB0 hB1 hB2
            go_wp2
            go_ret
            refine ⟨ret_int (lruChk_scan HSZ.out ?_).symm, ((Below.refl _ _).alloc (Nat.le_refl _) _).trans ((hbk.trans (hb1.mono hsz1)).mono (Nat.le_succ _))⟩
            have e := lruScan_far rs.length _ x (xs.drop (k + 1) ++ ys) HSk.out HIN.out
            rw [List.append_assoc, ← List.cons_append, ← List.append_assoc (xs.take k), ← split_at' HX.out, List.nil_append] at e
            exact e
        · obtain rfl : k = xs.length := by omega
          go_wp2
          go_roundw
          case rel => exact ⟨1, by omega, by omega, by go_num, by simpa [pre2] using hik, hbk, by simpa [pre2, Hid] using HSk⟩
          case measure => simp [intOf]
    · have i0 := idx1
      have hB0 := hb.cell (p := ⟨w.heap.size, 0, none⟩) (by simp)
      have hpl : xs.length ≤ 140737488351232 := by first | (simp; done) | omega
      go_wp2
      go_loopw [31] (fun i wr => ∃ k : Nat, k ≤ ys.length ∧ i = .int .i64 k ∧ IM Try.prog 3 3 wr (w.heap.size + 1) (xs.length + k) (ind (xs ++ ys.take k)) ∧
          Below (w.heap.size + 1) (w.alloc (.cells #[.slice Aa xs.length ca, .slice Ai ys.length ci, .slice Ar rs.length cr] 25)) wr ∧
          Hid (lruScan rs.length [] (xs ++ ys.take k) = none)) (fun i _ => ys.length - (intOf i).toNat)
      case atStart => exact ⟨0, by omega, rfl, by simpa [pre2] using him, hb, by simpa [pre2, Hid] using HS⟩
      case round =>
        obtain ⟨k, hk, rfl, hik, hbk, HSk⟩ := hrel
        clear hB0 him hb HS
        have hsz1 : w.heap.size + 1 ≤ wr.heap.size := by have := hbk.size; simpa using this
        by_cases hlt : k < ys.length
        · obtain ⟨b, off, x, rfl, hbl, hx, hc⟩ := HI.out.at_ hlt
          have HX := Lib.hid hx
          have hwx := HWI.out x (List.mem_of_getElem? hx)
          clear hx
          have hcx : wr.cell? ⟨b, off + k, none⟩ = some (.int .i64 x) := ((hbk.cell (p := ⟨b, off + k, none⟩) (by show b < _; omega)).trans (World.cell?_alloc_lt _ _ _ hbl)).trans hc
          clear hc
          have hB0 := hbk.cell (p := ⟨w.heap.size, 0, none⟩) (by simp)
          have hB1 := hbk.cell (p := ⟨w.heap.size, 1, none⟩) (by simp)
          have hB2 := hbk.cell (p := ⟨w.heap.size, 2, none⟩) (by simp)
          by_cases hin : 0 ≤ x ∧ x < rs.length
          · have hdec : decide (0 ≤ x ∧ x < (rs.length : Int)) = true := by simpa using hin
            have HIN := Lib.hid hin
            clear hin
            go_wp2_with fail
            refine (within_any _ _ _ _ _ _ _ (by omega)).mono ?_
            rintro e w1 ⟨rfl, hb1⟩
            clear hcx hB0 hB1 hB2
            have hi1 := hik.ext hb1
            have hb1' := hbk.trans (hb1.mono hsz1)
            have hsz2 : w.heap.size + 1 ≤ w1.heap.size := by have := hb1.size; omega
            by_cases hm : x ∈ xs ++ ys.take k
            · have HM := Lib.hid hm
              clear hm
              go_wp2_with (first
                | (at_lookup; refine wpList_look rfl (.tmp 39) (.tmp 40) rfl hi1 Try.underlying3 Try.underlying3 Try.underlying86 (zeroInt _) x hwx rfl rfl 1 (ind_yes HM.out) ?_)
                | (at_mapUpdate; refine wpList_upd rfl (.tmp 39) (.tmp 40) (.tmp 42) rfl hi1 Try.underlying3 Try.underlying3 Try.underlying86 (by unfold maxLen; omega) x 2 hwx (by decide) rfl rfl rfl (fun i => if i = x then 2 else ind (xs ++ ys.take k) i) (fun _ => rfl) ?_; intro w2 hi2 hg2)
                | (at_lookup; refine wpList_look rfl (.tmp 43) (.tmp 44) rfl hi2 Try.underlying3 Try.underlying3 Try.underlying86 (zeroInt _) x hwx rfl rfl 2 (if_pos rfl) ?_))
              go_ret
              refine ⟨ret_int (lruChk_scan HSZ.out ?_).symm, ?_⟩
              · have e := lruScan_met rs.length _ x (ys.drop (k + 1)) HSk.out HIN.out HM.out
                rw [List.append_assoc, ← split_at' HX.out] at e
                exact e
              · exact (((Below.refl _ _).alloc (Nat.le_refl _) _).trans (hb1'.mono (Nat.le_succ _))).grown hg2 (by omega) (fun k hk => by cases hk; exact Nat.le_succ _)
            · have HM := Lib.hid hm
              clear hm
              go_wp2_with (first
                | (at_lookup; refine wpList_look rfl (.tmp 39) (.tmp 40) rfl hi1 Try.underlying3 Try.underlying3 Try.underlying86 (zeroInt _) x hwx rfl rfl 0 (ind_no HM.out) ?_)
                | (at_mapUpdate; refine wpList_upd rfl (.tmp 39) (.tmp 40) (.tmp 42) rfl hi1 Try.underlying3 Try.underlying3 Try.underlying86 (by unfold maxLen; omega) x 1 hwx (by decide) rfl rfl rfl (ind (xs ++ ys.take k ++ [x])) ind_snoc ?_; intro w2 hi2 hg2)
                | (at_lookup; refine wpList_look rfl (.tmp 43) (.tmp 44) rfl hi2 Try.underlying3 Try.underlying3 Try.underlying86 (zeroInt _) x hwx rfl rfl 1 (ind_yes (by simp)) ?_))
              go_roundw
              case rel =>
                have e := take_snoc' HX.out
                refine ⟨k + 1, by omega, by go_num, by rw [e, ← List.append_assoc]; exact hi2, hb1'.grown hg2 (by omega) (fun k hk => by cases hk; exact Nat.le_refl _), ?_⟩
                rw [e, ← List.append_assoc]
                exact lruScan_on _ _ _ HSk.out HIN.out HM.out
              case measure => simp [intOf]; omega
          · have hdec : decide (0 ≤ x ∧ x < (rs.length : Int)) = false := by simpa using hin
            have HIN := Lib.hid hin
            clear hin
            go_wp2_with fail
            refine (within_any _ _ _ _ _ _ _ (by omega)).mono ?_
            rintro e w1 ⟨rfl, hb1⟩
            clear hcx hB0 hB1 hB2
            go_wp2
            go_ret
            refine ⟨ret_int (lruChk_scan HSZ.out ?_).symm, ((Below.refl _ _).alloc (Nat.le_refl _) _).trans ((hbk.trans (hb1.mono hsz1)).mono (Nat.le_succ _))⟩
            have e := lruScan_far rs.length _ x (ys.drop (k + 1)) HSk.out HIN.out
            rw [List.append_assoc, ← split_at' HX.out] at e
            exact e
        · obtain rfl : k = ys.length := by omega
          go_wp2
          go_roundw
          case rel => exact ⟨2, by omega, by omega, by go_num, by simpa [pre2] using hik, hbk, by simpa [pre2, Hid] using HSk⟩
          case measure => simp [intOf]
    · have hB2 := hb.cell (p := ⟨w.heap.size, 2, none⟩) (by simp)
      go_wp2
      go_loop [52] (fun i => ∃ k : Nat, k ≤ rs.length ∧ i = .int .i64 k ∧ Hid (∀ m : Nat, m < k → rs[m]? = some true → (m : Int) ∈ xs ++ ys)) (fun i => rs.length - (intOf i).toNat)
      case atStart => exact ⟨0, by omega, rfl, fun m hm => absurd hm (by omega)⟩
      case round =>
        obtain ⟨k, hk, rfl, HK⟩ := hrel
        have hbw : Below w.heap.size w wo := ((Below.refl _ _).alloc (Nat.le_refl _) _).trans (hb.mono (Nat.le_succ _))
        by_cases hlt : k < rs.length
        · obtain ⟨b, off, x, rfl, hbl, hx, hc⟩ := (HR.out.ext hbw).at_ hlt
          have HX := Lib.hid hx
          clear hx
          cases x with
          | false =>
            go_wp2
            go_round
            case rel =>
              refine ⟨k + 1, by omega, by go_num, fun m hm hm' => ?_⟩
              rcases (by omega : m < k ∨ m = k) with h | rfl
              · exact HK.out m h hm'
              · have := HX.out.symm.trans hm'; simp at this
            case measure => simp [intOf]; omega
          | true =>
            have hlk := him.look Try.underlying3 Try.underlying3 Try.underlying86 (zeroInt _) (k : Int) (WalkArith.wf_i64 (by omega))
            by_cases hm : (k : Int) ∈ xs ++ ys
            · have e : pre2 xs ys 2 = xs ++ ys := rfl
              rw [e, ind_yes hm] at hlk
              have HM := Lib.hid hm
              clear hm e
              go_wp2
              go_round
              case rel =>
                refine ⟨k + 1, by omega, by go_num, fun m hm hm' => ?_⟩
                rcases (by omega : m < k ∨ m = k) with h | rfl
                · exact HK.out m h hm'
                · exact HM.out
              case measure => simp [intOf]; omega
            · have e : pre2 xs ys 2 = xs ++ ys := rfl
              rw [e, ind_no hm] at hlk
              have HM := Lib.hid hm
              clear hm e
              go_wp2
              go_ret
              exact ⟨ret_int (lruChk_state HSZ.out HS.out HX.out HM.out).symm, hbw⟩
        · go_wp2
          go_ret
          exact ⟨ret_int (lruChk_ok HSZ.out HS.out (fun m hm => HK.out m (by have := (List.getElem?_eq_some_iff.1 hm).1; omega) hm)).symm, hbw⟩
end Go.Proofs.Ytiobbdfkimpfbaa
