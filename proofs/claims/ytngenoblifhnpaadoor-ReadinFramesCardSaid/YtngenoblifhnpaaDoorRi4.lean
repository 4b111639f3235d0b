/- Contracts of package readin: ofFrame, ofWrite, freed. -/
import Derived.Test.YtngenoblifhnpaaDoorRi3
namespace Go.Proofs.YtngenoblifhnpaaDoor
open Go.RowKit Go.Maps

set_option maxHeartbeats 1000000 in
theorem ofFrame_any (s f g : Int) (w : World) : Calls Tryd.prog 46 #[.agg #[.int .i64 s, .int .i64 f, .int .i64 g]] w fun e w' => e = .returned (.int .i64 f) ∧ Below w.heap.size w w' := by
  go_enter Tryd.func46, Tryd.ntmps46
  go_wp2
  go_ret
  exact ⟨rfl, (by repeat' (first | with_reducible exact Below.refl _ _ | with_reducible assumption | with_reducible apply Below.drew | with_reducible apply below_drewN | with_reducible apply Below.alloc | with_reducible apply Below.setCell | (with_reducible refine Below.trans ?_ (Below.mono (by assumption) ?_)) | (simp; done) | (simp; omega) | omega | with_reducible apply le_size_alloc | with_reducible apply le_size_drewN | with_reducible apply le_size_drew | with_reducible apply le_size_setCell | refine Nat.le_trans ?_ (Below.size (by assumption))))⟩
set_option maxHeartbeats 1000000 in
theorem ofWrite_any (s f g : Int) (w : World) : Calls Tryd.prog 47 #[.agg #[.int .i64 s, .int .i64 f, .int .i64 g]] w fun e w' => e = .returned (.int .i64 g) ∧ Below w.heap.size w w' := by
  go_enter Tryd.func47, Tryd.ntmps47
  go_wp2
  go_ret
  exact ⟨rfl, (by repeat' (first | with_reducible exact Below.refl _ _ | with_reducible assumption | with_reducible apply Below.drew | with_reducible apply below_drewN | with_reducible apply Below.alloc | with_reducible apply Below.setCell | (with_reducible refine Below.trans ?_ (Below.mono (by assumption) ?_)) | (simp; done) | (simp; omega) | omega | with_reducible apply le_size_alloc | with_reducible apply le_size_drewN | with_reducible apply le_size_drew | with_reducible apply le_size_setCell | refine Nat.le_trans ?_ (Below.size (by assumption))))⟩

/-- The two functions as values: false: ofFrame, true: ofWrite. -/
def whV (b : Bool) : Value := if b then .func (.func 47) #[] #[] else .func (.func 46) #[] #[]
/-- What they hand back. -/
def whI (f g : Int) (b : Bool) : Int := if b then g else f
theorem thereF_snoc (l : List Int) (x : Int) : thereF (l ++ [x]) = thereF l ++ (if x = -1 then [] else [x]) := by
  unfold thereF
  rw [List.filter_append]
  by_cases h : x = -1 <;> simp [h]
theorem thereF_len (l : List Int) : (thereF l).length ≤ l.length := List.length_filter_le _ _

set_option maxRecDepth 100000 in
set_option maxHeartbeats 4000000 in
theorem freed_any (s f g : Int) (A : Option Addr) (c : Nat) (bs : List Bool) (w : World) (ha : Sl w whV A bs) (la : bs.length ≤ 10) :
    Calls Tryd.prog 45 #[.agg #[.int .i64 s, .int .i64 f, .int .i64 g], .slice A bs.length c] w fun e w' =>
      ∃ A' c', e = .returned (.slice A' (thereF (bs.map (whI f g))).length c') ∧ Own w' (w.heap.size + 1) 3 (.int .i64) (.slice A' (thereF (bs.map (whI f g))).length c') (thereF (bs.map (whI f g))) ∧ Below w.heap.size w w' := by
  have HA := Lib.hid ha
  clear ha
  obtain ⟨i0, hi0, hz0, hz1, hz2⟩ := info_parts intInfo
  go_enter Tryd.func45, Tryd.ntmps45
  go_wp2_with fail
  obtain ⟨W, hW⟩ : ∃ W, w.alloc (.cells #[.int .i64 s, .int .i64 f, .int .i64 g] 23) = W := ⟨_, rfl⟩
  have BW : Below w.heap.size w W := by rw [← hW]; exact (Below.refl _ _).alloc (Nat.le_refl _) _
  have kb : Blk W w.heap.size 23 #[.int .i64 s, .int .i64 f, .int .i64 g] := by rw [← hW]; exact Blk.new_ rfl rfl
  have hWs : W.heap.size = w.heap.size + 1 := by rw [← hW]; simp
  rw [hW]
  clear hW
  have H1 : Hid (Sl W whV A bs) := HA.out.ext BW
  go_loopw [5, 11] (fun v i wr => ∃ k : Nat, k ≤ bs.length ∧ i = .int .i64 k ∧ ∃ A c, v = .slice A (thereF ((bs.take k).map (whI f g))).length c ∧ Own wr W.heap.size 3 (.int .i64) (.slice A (thereF ((bs.take k).map (whI f g))).length c) (thereF ((bs.take k).map (whI f g))) ∧ Below W.heap.size W wr) (fun _ i _ => bs.length - (intOf i).toNat)
  case atStart => exact ⟨0, by omega, rfl, none, 0, rfl, World.ownsRow_nil _ _ _ _, Below.refl _ _⟩
  case round =>
    obtain ⟨k, hk, rfl, A2, c2, rfl, ho2, hb2⟩ := hrel
    have HO2 := Lib.hid ho2
    clear ho2
    by_cases hk' : k < bs.length
    · obtain ⟨b, off, x, rfl, hbl, hx, hc⟩ := (H1.out.ext hb2).at_ hk'
      have i1 : (k : Int) < bs.length := by omega
      have kb2 := kb.below_ hb2 kb.lt
      have q0 := kb2.cell_ 0
      have q1 := kb2.cell_ 1
      have q2 := kb2.cell_ 2
      simp at q0 q1 q2
      have hel := Nat.le_trans (thereF_len ((bs.take k).map (whI f g))) (show ((bs.take k).map (whI f g)).length ≤ 10 by simp; omega)
      obtain ⟨xs, hxs⟩ : ∃ xs, thereF ((bs.take k).map (whI f g)) = xs := ⟨_, rfl⟩
      have HT : Hid (thereF ((bs.take (k + 1)).map (whI f g)) = xs ++ (if whI f g x = -1 then [] else [whI f g x])) := by
        show _ = _
        obtain ⟨hk2, rfl⟩ := List.getElem?_eq_some_iff.1 hx
        rw [List.take_succ_eq_append_getElem hk2, List.map_append, List.map_singleton, thereF_snoc, hxs]
      have hel2 : xs.length ≤ 10 := by rw [← hxs]; exact hel
      rw [hxs] at HO2 ⊢
      clear hxs kb2 hx hel
      obtain ⟨n, hn⟩ : ∃ n, whI f g x = n := ⟨_, rfl⟩
      rw [hn] at HT
      cases x with
      | false =>
        obtain rfl : f = n := hn
        simp only [whV, Bool.false_eq_true, if_false] at hc
        by_cases hm : f = -1
        · have HT2 : Hid (thereF ((bs.take (k + 1)).map (whI f g)) = xs) := by show _ = _; rw [HT.out, if_pos hm, List.append_nil]
          have hmb : (f != -1) = false := by simp [hm]
          clear hm
          go_wp2_with (first | (go_at_call 46; with_reducible refine (ofFrame_any s f g _).mono ?_; rintro e w3 ⟨rfl, hb3⟩))
          go_roundw
          case rel =>
            refine ⟨k + 1, by omega, by go_num, A2, c2, ?_, ?_, hb2.trans (hb3.mono hb2.size)⟩
            · rw [HT2.out]
            · rw [HT2.out]; exact HO2.out.below hb3
          case measure => simp [intOf]; omega
        · have HT2 : Hid (thereF ((bs.take (k + 1)).map (whI f g)) = xs ++ [f]) := by show _ = _; rw [HT.out, if_neg hm]
          have hmb : (f != -1) = true := by simpa using hm
          go_wp2_with (first | (go_at_call 46; with_reducible refine (ofFrame_any s f g _).mono ?_; rintro e w3 ⟨rfl, hb3⟩) | (at_builtin; refine wpList_appS' (mk := Value.int .i64) _ rfl (.tmp 20) (.tmp 22) _ rfl 3 i0 _ 8 Tryd.underlying32 hi0 hz0 hz1 hz2 rfl W.heap.size A2 c2 xs rfl ?_ _ 1 [f] (by simp) rfl (Sl.of_lit (t := 3) (xs := [f]) ?_) (int_one _) (by simp; omega) (by simp; omega) ?_ ?_; (exact HO2.out.below (by repeat' (first | with_reducible exact Below.refl _ _ | with_reducible assumption | with_reducible apply Below.drew | with_reducible apply below_drewN | with_reducible apply Below.alloc | with_reducible apply Below.setCell | (with_reducible refine Below.trans ?_ (Below.mono (by assumption) ?_)) | (simp; done) | (simp; omega) | omega | with_reducible apply le_size_alloc | with_reducible apply le_size_drewN | with_reducible apply le_size_drew | with_reducible apply le_size_setCell | refine Nat.le_trans ?_ (Below.size (by assumption))))); (exact (by repeat' (first | with_reducible assumption | (with_reducible refine Blk.new_ ?_ ?_ <;> first | (simp; done) | rfl) | with_reducible apply Blk.drew_ | with_reducible apply Blk.drewN_ | with_reducible apply Blk.alloc_ | with_reducible refine Blk.far_ ?_ ?_ _ | (with_reducible refine Blk.below_ ?_ (by assumption) ?_) | (simp; done) | (simp; omega) | omega | with_reducible apply le_size_alloc | with_reducible apply lt_size_alloc | with_reducible apply le_size_drewN | with_reducible apply le_size_drew | with_reducible apply le_size_setCell | refine Nat.lt_of_lt_of_le ?_ (Below.size (by assumption)) | refine Nat.le_trans ?_ (Below.size (by assumption))))); (exact Nat.le_trans hb2.size (Nat.le_trans hb3.size (by simp))); intro A4 c4 w4 ho4 hb4))
          go_roundw
          case rel =>
            refine ⟨k + 1, by omega, by go_num, A4, c4, ?_, ?_, hb2.trans ((hb3.mono hb2.size).trans (show Below W.heap.size w3 w4 from (by repeat' (first | with_reducible exact Below.refl _ _ | with_reducible assumption | with_reducible apply Below.drew | with_reducible apply below_drewN | with_reducible apply Below.alloc | with_reducible apply Below.setCell | (with_reducible refine Below.trans ?_ (Below.mono (by assumption) ?_)) | (simp; done) | (simp; omega) | omega | with_reducible apply le_size_alloc | with_reducible apply le_size_drewN | with_reducible apply le_size_drew | with_reducible apply le_size_setCell | refine Nat.le_trans ?_ (Below.size (by assumption))))))⟩
            · rw [HT2.out]; simp
            · rw [HT2.out]; exact ho4
          case measure => simp [intOf]; omega
      | true =>
        obtain rfl : g = n := hn
        simp only [whV, if_true] at hc
        by_cases hm : g = -1
        · have HT2 : Hid (thereF ((bs.take (k + 1)).map (whI f g)) = xs) := by show _ = _; rw [HT.out, if_pos hm, List.append_nil]
          have hmb : (g != -1) = false := by simp [hm]
          clear hm
          go_wp2_with (first | (go_at_call 47; with_reducible refine (ofWrite_any s f g _).mono ?_; rintro e w3 ⟨rfl, hb3⟩))
          go_roundw
          case rel =>
            refine ⟨k + 1, by omega, by go_num, A2, c2, ?_, ?_, hb2.trans (hb3.mono hb2.size)⟩
            · rw [HT2.out]
            · rw [HT2.out]; exact HO2.out.below hb3
          case measure => simp [intOf]; omega
        · have HT2 : Hid (thereF ((bs.take (k + 1)).map (whI f g)) = xs ++ [g]) := by show _ = _; rw [HT.out, if_neg hm]
          have hmb : (g != -1) = true := by simpa using hm
          go_wp2_with (first | (go_at_call 47; with_reducible refine (ofWrite_any s f g _).mono ?_; rintro e w3 ⟨rfl, hb3⟩) | (at_builtin; refine wpList_appS' (mk := Value.int .i64) _ rfl (.tmp 20) (.tmp 22) _ rfl 3 i0 _ 8 Tryd.underlying32 hi0 hz0 hz1 hz2 rfl W.heap.size A2 c2 xs rfl ?_ _ 1 [g] (by simp) rfl (Sl.of_lit (t := 3) (xs := [g]) ?_) (int_one _) (by simp; omega) (by simp; omega) ?_ ?_; (exact HO2.out.below (by repeat' (first | with_reducible exact Below.refl _ _ | with_reducible assumption | with_reducible apply Below.drew | with_reducible apply below_drewN | with_reducible apply Below.alloc | with_reducible apply Below.setCell | (with_reducible refine Below.trans ?_ (Below.mono (by assumption) ?_)) | (simp; done) | (simp; omega) | omega | with_reducible apply le_size_alloc | with_reducible apply le_size_drewN | with_reducible apply le_size_drew | with_reducible apply le_size_setCell | refine Nat.le_trans ?_ (Below.size (by assumption))))); (exact (by repeat' (first | with_reducible assumption | (with_reducible refine Blk.new_ ?_ ?_ <;> first | (simp; done) | rfl) | with_reducible apply Blk.drew_ | with_reducible apply Blk.drewN_ | with_reducible apply Blk.alloc_ | with_reducible refine Blk.far_ ?_ ?_ _ | (with_reducible refine Blk.below_ ?_ (by assumption) ?_) | (simp; done) | (simp; omega) | omega | with_reducible apply le_size_alloc | with_reducible apply lt_size_alloc | with_reducible apply le_size_drewN | with_reducible apply le_size_drew | with_reducible apply le_size_setCell | refine Nat.lt_of_lt_of_le ?_ (Below.size (by assumption)) | refine Nat.le_trans ?_ (Below.size (by assumption))))); (exact Nat.le_trans hb2.size (Nat.le_trans hb3.size (by simp))); intro A4 c4 w4 ho4 hb4))
          go_roundw
          case rel =>
            refine ⟨k + 1, by omega, by go_num, A4, c4, ?_, ?_, hb2.trans ((hb3.mono hb2.size).trans (show Below W.heap.size w3 w4 from (by repeat' (first | with_reducible exact Below.refl _ _ | with_reducible assumption | with_reducible apply Below.drew | with_reducible apply below_drewN | with_reducible apply Below.alloc | with_reducible apply Below.setCell | (with_reducible refine Below.trans ?_ (Below.mono (by assumption) ?_)) | (simp; done) | (simp; omega) | omega | with_reducible apply le_size_alloc | with_reducible apply le_size_drewN | with_reducible apply le_size_drew | with_reducible apply le_size_setCell | refine Nat.le_trans ?_ (Below.size (by assumption))))))⟩
            · rw [HT2.out]; simp
            · rw [HT2.out]; exact ho4
          case measure => simp [intOf]; omega
    · have hd : bs.take k = bs := List.take_of_length_le (by omega)
      rw [hd] at HO2 ⊢
      go_wp2_with fail
      go_ret
      exact ⟨A2, c2, rfl, by rw [← hWs]; exact HO2.out, BW.trans (hb2.mono BW.size)⟩
end Go.Proofs.YtngenoblifhnpaaDoor
