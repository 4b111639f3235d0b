/- headgateref19.Frames. -/
import Derived.Test.YtnglompninkmbaaHeldX
import Derived.Test.YtnglompninkmbaaAppI
namespace Go.Proofs.Ytnglompninkmbaa
open Go.RowKit Go.Maps

/-- The frames that are g, as often as there are writes of them. -/
def repF (l : List Wr) (g : Int) : List Int := (l.filter (fun x => decide (x.2.1 = g))).map (fun x => x.2.1)
/-- The frames below n, ascending. -/
def frTo (l : List Wr) : Nat → List Int
  | 0 => []
  | n + 1 => frTo l n ++ repF l n
theorem repF_len (l : List Wr) (g : Int) : (repF l g).length ≤ l.length := by
  unfold repF
  rw [List.length_map]
  exact List.length_filter_le _ _
theorem frTo_len (l : List Wr) : ∀ n, (frTo l n).length ≤ n * l.length
  | 0 => by simp [frTo]
  | n + 1 => by
    have := frTo_len l n
    have := repF_len l n
    rw [frTo, List.length_append, Nat.add_mul]
    omega
theorem repF_snoc (l : List Wr) (x : Wr) (g : Int) : repF (l ++ [x]) g = repF l g ++ (if x.2.1 = g then [x.2.1] else []) := by
  unfold repF
  rw [List.filter_append, List.map_append]
  congr 1
  by_cases h : x.2.1 = g <;> simp [h]
/-- Frames: the list, the error. -/
def frmS (l : List Wr) : List Int × Int := if (chkS l).1 ≠ 0 then ([], (chkS l).1) else (frTo l 256, 0)
def FrPost (R : List Int × Int) (w : World) (e : Ending) (w' : World) : Prop :=
  ∃ A c, e = .returned (.tuple #[.slice A R.1.length c, .int .i64 R.2]) ∧ Sl w' (.int .i64) A R.1 ∧ Below w.heap.size w w'

set_option maxRecDepth 100000 in
set_option maxHeartbeats 4000000 in
theorem RFrames_any (A : Option Addr) (c : Nat) (l : List Wr) (w : World) (ha : SW w A l) (la : l.length ≤ 1000) :
    Calls Try.prog 30 #[.slice A l.length c] w (FrPost (frmS l) w) := by
  have HS := Lib.hid ha
  clear ha
  obtain ⟨i0, hi0, hz0, hz1, hz2⟩ := info_parts intInfo
  obtain ⟨⟨z, n⟩, hk⟩ : ∃ r, chkS l = r := ⟨_, rfl⟩
  have HK := Lib.hid hk
  by_cases hz : z = 0
  · subst hz
    have hl16 : l.length ≤ 16 := (chkS_ok.1 (by rw [hk])).1
    have HF : Hid (frmS l = (frTo l 256, 0)) := by show _ = _; unfold frmS; rw [hk, if_neg (by simp)]
    clear hk
    go_enter Try.func30, Try.ntmps30
    go_wp2_with (first | (go_at_call 18; with_reducible refine (RCheck_any _ _ _ _ HS.out la HK.out).mono ?_; rintro e w1 ⟨rfl, hb1⟩))
    have H1 : Hid (SW w1 A l) := HS.out.ext hb1
    go_loopw [6, 7] (fun v i wr => ∃ k : Nat, k ≤ 256 ∧ i = .int .i64 k ∧ ∃ A c, v = .slice A (frTo l k).length c ∧ Own wr w1.heap.size 3 (.int .i64) (.slice A (frTo l k).length c) (frTo l k) ∧ Below w1.heap.size w1 wr) (fun _ i _ => 256 - (intOf i).toNat)
    case atStart => exact ⟨0, by omega, rfl, none, 0, rfl, World.ownsRow_nil _ _ _ _, Below.refl _ _⟩
    case round =>
      obtain ⟨k, hk, rfl, A2, c2, rfl, ho2, hb2⟩ := hrel
      by_cases hk' : k < 256
      · have i1 : (k : Int) < 256 := by omega
        have hfl := frTo_len l k
        have hfl2 : (frTo l k).length ≤ 4096 := by have : k * l.length ≤ 256 * 16 := Nat.mul_le_mul (by omega) hl16; omega
        have HO2 := Lib.hid ho2
        clear ho2 hfl
        go_wp2_with fail
        go_loopw [6, 8] (fun v i wr' => ∃ j : Nat, j ≤ l.length ∧ i = .int .i64 j ∧ ∃ A c, v = .slice A (frTo l k ++ repF (l.take j) k).length c ∧ Own wr' w1.heap.size 3 (.int .i64) (.slice A (frTo l k ++ repF (l.take j) k).length c) (frTo l k ++ repF (l.take j) k) ∧ Below w1.heap.size w1 wr') (fun _ i _ => l.length - (intOf i).toNat)
        case atStart => exact ⟨0, by omega, rfl, A2, c2, by simp [repF], by simpa [repF] using HO2.out, hb2⟩
        case round =>
          obtain ⟨j, hj, rfl, A3, c3, rfl, ho3, hb3⟩ := hrel
          by_cases hlt : j < l.length
          · obtain ⟨b, off, x, rfl, hbl, hx, q0, q1, q2⟩ := (H1.out.ext hb3).at_ hlt
            have j1 : (j : Int) < l.length := by omega
            have hrl := repF_len (l.take j) k
            have hT : Hid (repF (l.take (j + 1)) k = repF (l.take j) k ++ (if x.2.1 = (k : Int) then [x.2.1] else [])) := by
              show _ = _
              obtain ⟨hj', rfl⟩ := List.getElem?_eq_some_iff.1 hx
              rw [List.take_succ_eq_append_getElem hj', repF_snoc]
            have hlen3 : (frTo l k ++ repF (l.take j) k).length ≤ 5000 := by rw [List.length_append]; simp at hrl; omega
            have HO3 := Lib.hid ho3; have HX := Lib.hid hx
            clear ho3 hx hrl
            obtain ⟨xs, hxs⟩ : ∃ xs, frTo l k ++ repF (l.take j) k = xs := ⟨_, rfl⟩
            rw [hxs] at HO3 hlen3 ⊢
            have HXS := Lib.hid hxs
            clear hxs
            by_cases e1 : x.2.1 = (k : Int)
            · have HT2 : Hid (frTo l k ++ repF (l.take (j + 1)) k = xs ++ [(k : Int)]) := by
                show _ = _
                rw [hT.out, if_pos e1, e1, ← List.append_assoc, HXS.out]
              rw [e1] at q1
              clear e1
              go_wp2_with (at_builtin; refine wpList_appS' (mk := Value.int .i64) _ rfl (.tmp 34) (.tmp 36) _ rfl 3 i0 _ 8 Try.underlying22 hi0 hz0 hz1 hz2 rfl w1.heap.size A3 c3 xs rfl ?_ _ 1 [(k : Int)] (by simp) rfl (Sl.of_lit (t := 3) (xs := [(k : Int)]) ?_) (int_one _) (by simp; omega) (by simp; omega) ?_ ?_; (exact HO3.out.below (by repeat' (first | with_reducible exact Below.refl _ _ | with_reducible assumption | with_reducible apply Below.drew | with_reducible apply below_drewN | with_reducible apply Below.alloc | with_reducible apply Below.setCell | (with_reducible refine Below.trans ?_ (Below.mono (by assumption) ?_)) | (simp; done) | (simp; omega) | omega | with_reducible apply le_size_alloc | with_reducible apply le_size_drewN | with_reducible apply le_size_drew | with_reducible apply le_size_setCell | refine Nat.le_trans ?_ (Below.size (by assumption))))); (exact (by repeat' (first | with_reducible assumption | (with_reducible refine Blk.new_ ?_ ?_ <;> first | (simp; done) | rfl) | with_reducible apply Blk.drew_ | with_reducible apply Blk.drewN_ | with_reducible apply Blk.alloc_ | with_reducible refine Blk.far_ ?_ ?_ _ | (with_reducible refine Blk.below_ ?_ (by assumption) ?_) | (simp; done) | (simp; omega) | omega | with_reducible apply le_size_alloc | with_reducible apply lt_size_alloc | with_reducible apply le_size_drewN | with_reducible apply le_size_drew | with_reducible apply le_size_setCell | refine Nat.lt_of_lt_of_le ?_ (Below.size (by assumption)) | refine Nat.le_trans ?_ (Below.size (by assumption))))); (exact Nat.le_trans hb3.size (by simp)); intro A4 c4 w4 ho4 hb4)
              go_roundw
              case rel =>
                refine ⟨j + 1, by omega, by go_num, A4, c4, ?_, ?_, (by repeat' (first | with_reducible exact Below.refl _ _ | with_reducible assumption | with_reducible apply Below.drew | with_reducible apply below_drewN | with_reducible apply Below.alloc | with_reducible apply Below.setCell | (with_reducible refine Below.trans ?_ (Below.mono (by assumption) ?_)) | (simp; done) | (simp; omega) | omega | with_reducible apply le_size_alloc | with_reducible apply le_size_drewN | with_reducible apply le_size_drew | with_reducible apply le_size_setCell | refine Nat.le_trans ?_ (Below.size (by assumption))))⟩
                · rw [HT2.out]; simp
                · rw [HT2.out]; exact ho4
              case measure => simp [intOf]; omega
            · have e1b : (x.2.1 == (k : Int)) = false := by simpa using e1
              have HT2 : Hid (frTo l k ++ repF (l.take (j + 1)) k = xs) := by
                show _ = _
                rw [hT.out, if_neg e1, List.append_nil, HXS.out]
              go_wp2_with fail
              go_roundw
              case rel =>
                refine ⟨j + 1, by omega, by go_num, A3, c3, ?_, ?_, (by repeat' (first | with_reducible exact Below.refl _ _ | with_reducible assumption | with_reducible apply Below.drew | with_reducible apply below_drewN | with_reducible apply Below.alloc | with_reducible apply Below.setCell | (with_reducible refine Below.trans ?_ (Below.mono (by assumption) ?_)) | (simp; done) | (simp; omega) | omega | with_reducible apply le_size_alloc | with_reducible apply le_size_drewN | with_reducible apply le_size_drew | with_reducible apply le_size_setCell | refine Nat.le_trans ?_ (Below.size (by assumption))))⟩
                · rw [HT2.out]
                · rw [HT2.out]; exact HO3.out
              case measure => simp [intOf]; omega
          · have hd : l.take j = l := List.take_of_length_le (by omega)
            have hT : frTo l k ++ repF (l.take j) k = frTo l (k + 1) := by rw [hd]; rfl
            rw [hT] at ho3 ⊢
            have HO3 := Lib.hid ho3
            clear hT hd ho3
            go_wp2_with fail
            go_roundw
            case rel => exact ⟨k + 1, by omega, by go_num, A3, c3, rfl, HO3.out, hb3⟩
            case measure => simp [intOf]; omega
      · obtain rfl : k = 256 := by omega
        obtain ⟨A', c', e', hsl⟩ := ho2.sl
        injection e' with e1 e2 e3
        subst e1 e3
        have HSL := Lib.hid hsl
        clear ho2 hsl e2
        obtain ⟨xs, hxs⟩ : ∃ xs, frTo l 256 = xs := ⟨_, rfl⟩
        rw [hxs] at HF HSL ⊢
        clear hxs
        go_wp2_with fail
        refine bodyPost_ret (v := .tuple #[.slice A2 xs.length c2, .int .i64 0]) (by simp [results, Try.results30, go_sem]) rfl ?_
        unfold FrPost
        rw [HF.out]
        exact ⟨A2, c2, rfl, HSL.out, hb1.trans (hb2.mono hb1.size)⟩
  · have HF : Hid (frmS l = ([], z)) := by show _ = _; unfold frmS; rw [hk, if_pos hz]
    have hzb : (z != 0) = true := by simpa using hz
    clear hk
    go_enter Try.func30, Try.ntmps30
    go_wp2_with (first | (go_at_call 18; with_reducible refine (RCheck_any _ _ _ _ HS.out la HK.out).mono ?_; rintro e w1 ⟨rfl, hb1⟩))
    refine bodyPost_ret (v := .tuple #[.slice none 0 0, .int .i64 z]) (by simp [results, Try.results30, go_sem]) rfl ?_
    unfold FrPost
    rw [HF.out]
    exact ⟨none, 0, rfl, Sl.nil, hb1⟩
end Go.Proofs.Ytnglompninkmbaa
