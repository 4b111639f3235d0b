/- Contracts of small functions on lists of the statements of lru: without, bits, Has, size. -/
import Derived.Test.YtjilfijpepbfeaaLruM
namespace Go.Proofs.Ytjilfijpepbfeaa
open Go.RowKit Go.Maps

/-- A list without a number. -/
def wo (n : Int) (xs : List Int) : List Int := xs.filter (· != n)
theorem wo_len (n : Int) (xs : List Int) : (wo n xs).length ≤ xs.length := List.length_filter_le _ _
theorem wo_keep {n x : Int} {xs : List Int} (h : x ≠ n) : wo n (xs ++ [x]) = wo n xs ++ [x] := by simp [wo, List.filter_append, h]
theorem wo_drop {n x : Int} {xs : List Int} (h : x = n) : wo n (xs ++ [x]) = wo n xs := by simp [wo, List.filter_append, h]

theorem Own.sl_ {α : Type} {w : World} {base : Nat} {E : TypeId} {mk : α → Value} {A : Option Addr} {n c : Nat} {xs : List α} (h : Own w base E mk (.slice A n c) xs) : Sl w mk A xs := by
  obtain ⟨A', c', e, hs⟩ := h.sl
  injection e with e
  subst e
  exact hs
/-- A new row that reads as ys. -/
def NewPost (ys : List Int) (w : World) (e : Ending) (w' : World) : Prop :=
  ∃ A c, e = .returned (.slice A ys.length c) ∧ Own w' w.heap.size 3 (.int .i64) (.slice A ys.length c) ys ∧ Below w.heap.size w w'

set_option maxHeartbeats 1000000 in
theorem without_any (A : Option Addr) (c : Nat) (xs : List Int) (n : Int) (w : World) (h : Sl w (.int .i64) A xs) (hn : xs.length ≤ 100000) :
    Calls Try.prog 31 #[.slice A xs.length c, .int .i64 n] w (NewPost (wo n xs) w) := by
  obtain ⟨i0, hi0, hz0, hz1, hz2⟩ := info_parts intInfo
  have HN := Lib.hid h
  clear h
  go_enter Try.func31, Try.ntmps31
  go_wp2
  go_loopw [5, 6] (fun v i wr => ∃ k : Nat, k ≤ xs.length ∧ i = .int .i64 k ∧ ∃ A' c', v = .slice A' (wo n (xs.take k)).length c' ∧ Own wr w.heap.size 3 (.int .i64) (.slice A' (wo n (xs.take k)).length c') (wo n (xs.take k)) ∧ Below w.heap.size w wr)
    (fun _ i _ => xs.length - (intOf i).toNat)
  case atStart => exact ⟨0, by omega, rfl, none, 0, rfl, World.ownsRow_nil _ _ _ _, Below.refl _ _⟩
  case round =>
    obtain ⟨k, hk, rfl, A', c', rfl, ho, hb⟩ := hrel
    by_cases hlt : k < xs.length
    · obtain ⟨b, off, x, rfl, hbl, hx, hc⟩ := (HN.out.ext hb).at_ hlt
      have HX := Lib.hid hx
      clear hx
      have hlw := wo_len n (xs.take k)
      have hlt2 : (xs.take k).length ≤ k := List.length_take_le _ _
      obtain ⟨zs, hzs⟩ : ∃ zs, wo n (xs.take k) = zs := ⟨_, rfl⟩
      rw [hzs] at ho hlw ⊢
      have HZ := Lib.hid hzs
      clear hzs
      by_cases hne : x = n
      · have hne' : (x != n) = false := by simp [hne]
        have HE := Lib.hid hne
        clear hne
        have HO := Lib.hid ho
        clear ho
        go_wp2
        go_roundw
        case rel => exact ⟨k + 1, by omega, by go_num, A', c', by rw [take_snoc' HX.out, wo_drop HE.out, HZ.out], by rw [take_snoc' HX.out, wo_drop HE.out, HZ.out]; exact HO.out, hb⟩
        case measure => simp [intOf]; omega
      · have hne' : (x != n) = true := by simpa using hne
        have HE := Lib.hid hne
        clear hne
        have hsf : Sl (wr.alloc (.cells #[.int .i64 x] 3)) (Value.int .i64) (some ⟨wr.heap.size, 0, none⟩) [x] := Sl.of_lit (t := 3) (Blk.new_ rfl rfl)
        have ho2 := ho.below (w' := wr.alloc (.cells #[.int .i64 x] 3)) (by repeat' (first | with_reducible exact Below.refl _ _ | with_reducible assumption | with_reducible apply Below.drew | with_reducible apply below_drewN | with_reducible apply Below.alloc | with_reducible apply Below.setCell | (with_reducible refine Below.trans ?_ (Below.mono (by assumption) ?_)) | (simp; done) | (simp; omega) | omega | with_reducible apply le_size_alloc | with_reducible apply le_size_drewN | with_reducible apply le_size_drew | with_reducible apply le_size_setCell | refine Nat.le_trans ?_ (Below.size (by assumption))))
        have HO := Lib.hid ho2; have HSF := Lib.hid hsf
        have hz := hb.size
        clear ho ho2 hsf
        go_wp2_with (at_builtin; refine wpList_appS (mk := Value.int .i64) _ rfl (.tmp 19) (.tmp 24) _ rfl 3 i0 _ 8 Try.underlying22 hi0 hz0 hz1 hz2 rfl w.heap.size A' c' zs rfl HO.out (some ⟨wr.heap.size, 0, none⟩) 1 [x] rfl HSF.out (int_one [x]) (by simp; omega) (by simp; omega) (by simp; omega) ?_; intro A5 c5 w5 ho5 hg5 hl5; have HO5 := Lib.hid ho5; have HG5 := Lib.hid hg5; clear ho5 hg5 hl5)
        go_roundw
        case rel =>
          refine ⟨k + 1, by omega, by go_num, A5, c5, by rw [take_snoc' HX.out, wo_keep HE.out, HZ.out]; simp, by rw [take_snoc' HX.out, wo_keep HE.out, HZ.out]; exact HO5.out, ?_⟩
          exact (hb.alloc (by omega) _).grown HG5.out (by simp; omega) (fun k hk => (HO.out.block k hk).1)
        case measure => simp [intOf]; omega
    · have HO := Lib.hid ho
      have e : xs.take k = xs := List.take_of_length_le (by omega)
      have HE := Lib.hid e
      clear ho e
      go_wp2
      go_ret
      rw [HE.out]
      exact ⟨A', c', rfl, by rw [← HE.out]; rw [HE.out]; have := HO.out; rw [HE.out] at this; exact this, hb⟩

set_option maxHeartbeats 1000000 in
theorem bits_yes (Aa Ai Ar Ba Bi Br : Option Addr) (na ni nb nj ca ci cr da di dr : Nat) (rs rs' : List Bool) (f : Int) (w : World)
    (hr : Sl w .bool Ar rs') (hr' : Sl w .bool Br rs) (l3 : rs.length ≤ 100000) (hl0 : rs'.length = rs.length) (hbit : ∀ k : Nat, ∀ b : Bool, rs[k]? = some b → rs'[k]? = some (b && !decide ((k : Int) = f))) :
    Calls Try.prog 32 #[.agg #[.slice Aa na ca, .slice Ai ni ci, .slice Ar rs'.length cr], .agg #[.slice Ba nb da, .slice Bi nj di, .slice Br rs.length dr], .int .i64 f] w fun e w' =>
      e = .returned (.bool true) ∧ Below w.heap.size w w' := by
  have HA := Lib.hid hr; have HB := Lib.hid hr'; have HBIT := Lib.hid hbit
  have l1 : rs'.length ≤ rs.length := by omega
  have l2 : rs.length ≤ rs'.length := by omega
  have l4 : ((rs'.length : Int) != rs.length) = false := by simp; omega
  clear hr hr' hl0 hbit
  go_enter Try.func32, Try.ntmps32
  go_wp2
  go_loopw [7] (fun i wr => ∃ k : Nat, k ≤ rs.length ∧ i = .int .i64 k ∧ Below (w.heap.size + 2) ((w.alloc (.cells #[.slice Aa na ca, .slice Ai ni ci, .slice Ar rs'.length cr] 25)).alloc (.cells #[.slice Ba nb da, .slice Bi nj di, .slice Br rs.length dr] 25)) wr) (fun i _ => rs.length - (intOf i).toNat)
  case atStart => exact ⟨0, by omega, rfl, Below.refl _ _⟩
  case round =>
    obtain ⟨k, hk, rfl, hb⟩ := hrel
    have hbw : Below w.heap.size w wr := ((Below.refl _ _).alloc (Nat.le_refl _) _ |>.alloc (by simp) _).trans (hb.mono (by omega))
    have q0 : wr.cell? ⟨w.heap.size, 2, none⟩ = some (.slice Ar rs'.length cr) := cell_keep hb (by simp) (by simp)
    have q1 : wr.cell? ⟨w.heap.size + 1, 2, none⟩ = some (.slice Br rs.length dr) := cell_keep hb (by simp) (by simp)
    by_cases hlt : k < rs.length
    · obtain ⟨b, off, x, hAr, hbl, hx, hc⟩ := (HA.out.ext hbw).at_ (show k < rs'.length by omega)
      obtain ⟨b', off', y, hBr, hbl', hy, hc'⟩ := (HB.out.ext hbw).at_ hlt
      subst hAr hBr
      have i1 : (k : Int) < rs.length := by omega
      have i2 : (k : Int) < rs'.length := by omega
      have i3 : k < rs'.length := by omega
      have hxy := (HBIT.out k y hy).symm.trans hx
      injection hxy with hxy
      clear hx hy
      by_cases hf : (k : Int) = f
      · have e1 : ((k : Int) != f) = false := by simp [hf]
        have e2 : x = false := by rw [← hxy]; simp [hf]
        subst e2
        clear hxy hf
        cases y
        all_goals
          go_wp2
          go_quiet (fail)
          go_wp2
          go_roundw
          case rel => exact ⟨k + 1, by omega, by go_num, (by repeat' (first | with_reducible exact Below.refl _ _ | with_reducible assumption | with_reducible apply Below.drew | with_reducible apply below_drewN | with_reducible apply Below.alloc | with_reducible apply Below.setCell | (with_reducible refine Below.trans ?_ (Below.mono (by assumption) ?_)) | (simp; done) | (simp; omega) | omega | with_reducible apply le_size_alloc | with_reducible apply le_size_drewN | with_reducible apply le_size_drew | with_reducible apply le_size_setCell | refine Nat.le_trans ?_ (Below.size (by assumption))))⟩
          case measure => simp [intOf]; omega
      · have e1 : ((k : Int) != f) = true := by simpa using hf
        have e2 : x = y := by rw [← hxy]; simp [hf]
        subst e2
        clear hxy hf
        cases x
        all_goals
          go_wp2
          go_quiet (fail)
          go_wp2
          go_roundw
          case rel => exact ⟨k + 1, by omega, by go_num, (by repeat' (first | with_reducible exact Below.refl _ _ | with_reducible assumption | with_reducible apply Below.drew | with_reducible apply below_drewN | with_reducible apply Below.alloc | with_reducible apply Below.setCell | (with_reducible refine Below.trans ?_ (Below.mono (by assumption) ?_)) | (simp; done) | (simp; omega) | omega | with_reducible apply le_size_alloc | with_reducible apply le_size_drewN | with_reducible apply le_size_drew | with_reducible apply le_size_setCell | refine Nat.le_trans ?_ (Below.size (by assumption))))⟩
          case measure => simp [intOf]; omega
    · go_wp2
      go_ret
      exact ⟨rfl, hbw⟩
end Go.Proofs.Ytjilfijpepbfeaa
