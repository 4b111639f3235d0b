/- Contracts of headgateref07: own, without, Add, Remove, Touch. Written by gen_ref2.py. -/
import Derived.Test.YtiobbdfkimpfbaaRef1
import Derived.Test.YtiobbdfkimpfbaaKitL
namespace Go.Proofs.Ytiobbdfkimpfbaa
set_option linter.unusedSimpArgs false
set_option linter.unusedVariables false
open Go.RowKit Go.Maps

set_option maxRecDepth 100000 in
set_option maxHeartbeats 2000000 in
theorem Rown_any (Aa Ai Ar : Option Addr) (ca ci cr : Nat) (xs ys : List Int) (rs : List Bool) (w : World) (ha : Sl w (.int .i64) Aa xs) (hi : Sl w (.int .i64) Ai ys) (hr : Sl w .bool Ar rs)
    (la : xs.length ≤ 1000) (li : ys.length ≤ 1000) (lr : rs.length ≤ 1000) :
    Calls Try.prog 73 #[.agg #[.slice Aa xs.length ca, .slice Ai ys.length ci, .slice Ar rs.length cr]] w (OwnPost xs ys rs w) := by
  have HA := Lib.hid ha; have HI := Lib.hid hi; have HR := Lib.hid hr
  clear ha hi hr
  obtain ⟨i0, hi0, hz0, hz1, hz2⟩ := info_parts intInfo
  obtain ⟨j0, hj0, hy0, hy1, hy2⟩ := info_parts boolInfo
  go_enter Try.func73, Try.ntmps73
  go_upto_region 1 with fail
  go_cut [] (fun wx => OwnCut xs ys rs w wx)
  case first =>
   go_region_held3 (fun W => W.cell? ⟨w.heap.size, 0, none⟩ = some (.slice Aa xs.length ca) ∧ W.cell? ⟨w.heap.size, 1, none⟩ = some (.slice Ai ys.length ci) ∧ W.cell? ⟨w.heap.size, 2, none⟩ = some (.slice Ar rs.length cr))
    (refine ⟨?_, ?_, ?_⟩ <;> (refine cell_keep (B := w.heap.size + 1) (a := w.alloc (.cells #[.slice Aa xs.length ca, .slice Ai ys.length ci, .slice Ar rs.length cr] 25)) (by repeat' (first | with_reducible exact Below.refl _ _ | with_reducible assumption | with_reducible apply Below.drew | with_reducible apply below_drewN | with_reducible apply Below.alloc | with_reducible apply Below.setCell | (with_reducible refine Below.trans ?_ (Below.mono (by assumption) ?_)) | (simp; done) | (simp; omega) | omega | with_reducible apply le_size_alloc | with_reducible apply le_size_drewN | with_reducible apply le_size_drew | with_reducible apply le_size_setCell | refine Nat.le_trans ?_ (Below.size (by assumption)))) (by simp) (by simp)))
    (first
      | (refine step_append_fresh (mk := Value.int .i64) _ rfl (.tmp 3) (.tmp 5) _ rfl 3 i0 _ 8 Try.underlying22 hi0 hz0 hz1 rfl hz2 (w.heap.size + 2) _ ?_ ?_ Aa ca xs rfl rfl (HA.out.ext (by repeat' (first | with_reducible exact Below.refl _ _ | with_reducible assumption | with_reducible apply Below.drew | with_reducible apply below_drewN | with_reducible apply Below.alloc | with_reducible apply Below.setCell | (with_reducible refine Below.trans ?_ (Below.mono (by assumption) ?_)) | (simp; done) | (simp; omega) | omega | with_reducible apply le_size_alloc | with_reducible apply le_size_drewN | with_reducible apply le_size_drew | with_reducible apply le_size_setCell | refine Nat.le_trans ?_ (Below.size (by assumption))))) (int_one xs) (by omega) (by omega) ?_; (exact (by repeat' (first | with_reducible assumption | (with_reducible refine Blk.new_ ?_ ?_ <;> first | (simp; done) | rfl) | with_reducible apply Blk.drew_ | with_reducible apply Blk.drewN_ | with_reducible apply Blk.alloc_ | with_reducible refine Blk.far_ ?_ ?_ _ | (with_reducible refine Blk.below_ ?_ (by assumption) ?_) | (simp; done) | (simp; omega) | omega | with_reducible apply le_size_alloc | with_reducible apply lt_size_alloc | with_reducible apply le_size_drewN | with_reducible apply le_size_drew | with_reducible apply le_size_setCell | refine Nat.lt_of_lt_of_le ?_ (Below.size (by assumption)) | refine Nat.le_trans ?_ (Below.size (by assumption))))); (first | omega | (simp; done) | (simp; omega) | (have q1 := hb1.size; have q2 := hb2.size; first | omega | (simp at q1 q2 ⊢; omega) | (simp at q1 q2; omega) | (simp at q1; omega)) | (have q1 := hb1.size; first | omega | (simp at q1 ⊢; omega) | (simp at q1; omega))); intro A1 c1 w1 hs1 hb1 hl1)
      | (refine step_append_fresh (mk := Value.int .i64) _ rfl (.tmp 7) (.tmp 9) _ rfl 3 i0 _ 8 Try.underlying22 hi0 hz0 hz1 rfl hz2 (w.heap.size + 2) _ ?_ ?_ Ai ci ys rfl rfl (HI.out.ext (by repeat' (first | with_reducible exact Below.refl _ _ | with_reducible assumption | with_reducible apply Below.drew | with_reducible apply below_drewN | with_reducible apply Below.alloc | with_reducible apply Below.setCell | (with_reducible refine Below.trans ?_ (Below.mono (by assumption) ?_)) | (simp; done) | (simp; omega) | omega | with_reducible apply le_size_alloc | with_reducible apply le_size_drewN | with_reducible apply le_size_drew | with_reducible apply le_size_setCell | refine Nat.le_trans ?_ (Below.size (by assumption))))) (int_one ys) (by omega) (by omega) ?_; (exact (by repeat' (first | with_reducible assumption | (with_reducible refine Blk.new_ ?_ ?_ <;> first | (simp; done) | rfl) | with_reducible apply Blk.drew_ | with_reducible apply Blk.drewN_ | with_reducible apply Blk.alloc_ | with_reducible refine Blk.far_ ?_ ?_ _ | (with_reducible refine Blk.below_ ?_ (by assumption) ?_) | (simp; done) | (simp; omega) | omega | with_reducible apply le_size_alloc | with_reducible apply lt_size_alloc | with_reducible apply le_size_drewN | with_reducible apply le_size_drew | with_reducible apply le_size_setCell | refine Nat.lt_of_lt_of_le ?_ (Below.size (by assumption)) | refine Nat.le_trans ?_ (Below.size (by assumption))))); (first | omega | (simp; done) | (simp; omega) | (have q1 := hb1.size; have q2 := hb2.size; first | omega | (simp at q1 q2 ⊢; omega) | (simp at q1 q2; omega) | (simp at q1; omega)) | (have q1 := hb1.size; first | omega | (simp at q1 ⊢; omega) | (simp at q1; omega))); intro A2 c2 w2 hs2 hb2 hl2)
      | (refine step_append_fresh (mk := Value.bool) _ rfl (.tmp 11) (.tmp 13) _ rfl 4 j0 _ 1 Try.underlying23 hj0 hy0 hy1 rfl hy2 (w.heap.size + 2) _ ?_ ?_ Ar cr rs rfl rfl (HR.out.ext (by repeat' (first | with_reducible exact Below.refl _ _ | with_reducible assumption | with_reducible apply Below.drew | with_reducible apply below_drewN | with_reducible apply Below.alloc | with_reducible apply Below.setCell | (with_reducible refine Below.trans ?_ (Below.mono (by assumption) ?_)) | (simp; done) | (simp; omega) | omega | with_reducible apply le_size_alloc | with_reducible apply le_size_drewN | with_reducible apply le_size_drew | with_reducible apply le_size_setCell | refine Nat.le_trans ?_ (Below.size (by assumption))))) (bool_one rs) (by omega) (by omega) ?_; (exact (by repeat' (first | with_reducible assumption | (with_reducible refine Blk.new_ ?_ ?_ <;> first | (simp; done) | rfl) | with_reducible apply Blk.drew_ | with_reducible apply Blk.drewN_ | with_reducible apply Blk.alloc_ | with_reducible refine Blk.far_ ?_ ?_ _ | (with_reducible refine Blk.below_ ?_ (by assumption) ?_) | (simp; done) | (simp; omega) | omega | with_reducible apply le_size_alloc | with_reducible apply lt_size_alloc | with_reducible apply le_size_drewN | with_reducible apply le_size_drew | with_reducible apply le_size_setCell | refine Nat.lt_of_lt_of_le ?_ (Below.size (by assumption)) | refine Nat.le_trans ?_ (Below.size (by assumption))))); (first | omega | (simp; done) | (simp; omega) | (have q1 := hb1.size; have q2 := hb2.size; first | omega | (simp at q1 q2 ⊢; omega) | (simp at q1 q2; omega) | (simp at q1; omega)) | (have q1 := hb1.size; first | omega | (simp at q1 ⊢; omega) | (simp at q1; omega))); intro A3 c3 w3 hs3 hb3 hl3; have hbl : Below (w.heap.size + 2) ((w.alloc (.cells #[.slice Aa xs.length ca, .slice Ai ys.length ci, .slice Ar rs.length cr] 25)).alloc (.cells #[.slice none 0 0, .slice none 0 0, .slice none 0 0] 25)) w3 := (by repeat' (first | with_reducible exact Below.refl _ _ | with_reducible assumption | with_reducible apply Below.drew | with_reducible apply below_drewN | with_reducible apply Below.alloc | with_reducible apply Below.setCell | (with_reducible refine Below.trans ?_ (Below.mono (by assumption) ?_)) | (simp; done) | (simp; omega) | omega | with_reducible apply le_size_alloc | with_reducible apply le_size_drewN | with_reducible apply le_size_drew | with_reducible apply le_size_setCell | refine Nat.le_trans ?_ (Below.size (by assumption)))); have q0 : w3.cell? ⟨w.heap.size + 1, 0, none⟩ = some (.slice none 0 0) := cell_keep hbl (by simp) (by simp); have q1 : w3.cell? ⟨w.heap.size + 1, 1, none⟩ = some (.slice none 0 0) := cell_keep hbl (by simp) (by simp); have q2 : w3.cell? ⟨w.heap.size + 1, 2, none⟩ = some (.slice none 0 0) := cell_keep hbl (by simp) (by simp); have q3 : w3.frozen? ⟨w.heap.size + 1, 0, none⟩ = false := frozen_keep hbl (by simp) (by simp); have q4 : w3.frozen? ⟨w.heap.size + 1, 1, none⟩ = false := frozen_keep hbl (by simp) (by simp); have q5 : w3.frozen? ⟨w.heap.size + 1, 2, none⟩ = false := frozen_keep hbl (by simp) (by simp)))
   all_goals
    go_wp2_with fail
    go_meet
    have z1 : w.heap.size + 2 ≤ w1.heap.size := by have := hb1.size; first | omega | (simp at this; omega)
    have z2 : w1.heap.size ≤ w2.heap.size := by have := hb2.size; first | omega | (simp at this; omega)
    have z3 : w2.heap.size ≤ w3.heap.size := by have := hb3.size; first | omega | (simp at this; omega)
    obtain ⟨r0, r1, r2⟩ := cells3 q0 q1 q2 (.slice A1 xs.length c1) (.slice A2 ys.length c2) (.slice A3 rs.length c3)
    have HBL := Lib.hid hbl
    clear hbl
    have g2 : Below w2.heap.size w2 w3 := (by repeat' (first | with_reducible exact Below.refl _ _ | with_reducible assumption | with_reducible apply Below.drew | with_reducible apply below_drewN | with_reducible apply Below.alloc | with_reducible apply Below.setCell | (with_reducible refine Below.trans ?_ (Below.mono (by assumption) ?_)) | (simp; done) | (simp; omega) | omega | with_reducible apply le_size_alloc | with_reducible apply le_size_drewN | with_reducible apply le_size_drew | with_reducible apply le_size_setCell | refine Nat.le_trans ?_ (Below.size (by assumption))))
    have g1 : Below w1.heap.size w1 w3 := (by repeat' (first | with_reducible exact Below.refl _ _ | with_reducible assumption | with_reducible apply Below.drew | with_reducible apply below_drewN | with_reducible apply Below.alloc | with_reducible apply Below.setCell | (with_reducible refine Below.trans ?_ (Below.mono (by assumption) ?_)) | (simp; done) | (simp; omega) | omega | with_reducible apply le_size_alloc | with_reducible apply le_size_drewN | with_reducible apply le_size_drew | with_reducible apply le_size_setCell | refine Nat.le_trans ?_ (Below.size (by assumption))))
    have hw : Below w.heap.size w w3 := ((Below.refl _ _).alloc (Nat.le_refl _) _ |>.alloc (by simp) _).trans (HBL.out.mono (by omega))
    have o1 := hs1.below g1
    have o2 := hs2.below g2
    have y1 := hb1.size; have y2 := hb2.size; have y3 := hb3.size
    (try simp at y1); (try simp at y2); (try simp at y3)
    have k1 : ∀ g, A1.map (·.block) = some g → _ := fun g e => (hs1.block g e).2
    have k2 : ∀ g, A2.map (·.block) = some g → _ := fun g e => (hs2.block g e).2
    have hL : OwnL w3 (w.heap.size + 2) A1 c1 A2 c2 A3 c3 xs ys rs := by
      refine ⟨o1, o2, hs3, fun g e e' => ?_, fun g e e' => ?_, fun g e e' => ?_⟩
      · have a1 := k1 g e
        rcases hl1 g e with h | h <;> rcases hl2 g e' with h' | h' <;> first | omega | (simp at h h'; omega) | (simp at h; omega) | (simp at h'; omega)
      · have a1 := k1 g e
        rcases hl1 g e with h | h <;> rcases hl3 g e' with h' | h' <;> first | omega | (simp at h h'; omega) | (simp at h; omega) | (simp at h'; omega)
      · have a1 := k2 g e
        rcases hl2 g e with h | h <;> rcases hl3 g e' with h' | h' <;> first | omega | (simp at h h'; omega) | (simp at h; omega) | (simp at h'; omega)
    exact ⟨A1, c1, A2, c2, A3, c3, r0, r1, r2, (((hL.far_ _ _ (by omega)).far_ _ _ (by omega)).far_ _ _ (by omega)).base_ (by omega), below3 hw (by omega) _ _ _⟩
  case rest =>
    obtain ⟨A1, c1, A2, c2, A3, c3, q0, q1, q2, hL, hb⟩ := hcut
    have HH := Lib.hid (And.intro hL hb)
    clear hL hb
    go_wp2
    refine bodyPost_ret (v := .agg #[.slice A1 xs.length c1, .slice A2 ys.length c2, .slice A3 rs.length c3]) (by simp [results, Try.results73, go_sem, q0, q1, q2]) rfl ?_
    exact ⟨A1, c1, A2, c2, A3, c3, rfl, HH.out.1, HH.out.2⟩
set_option maxHeartbeats 1000000 in
theorem Rwithout_any (A : Option Addr) (c : Nat) (xs : List Int) (n : Int) (w : World) (h : Sl w (.int .i64) A xs) (hn : xs.length ≤ 100000) :
    Calls Try.prog 74 #[.slice A xs.length c, .int .i64 n] w (NewPost (wo n xs) w) := by
  obtain ⟨i0, hi0, hz0, hz1, hz2⟩ := info_parts intInfo
  have HN := Lib.hid h
  clear h
  go_enter Try.func74, Try.ntmps74
  go_wp2
  go_loopw [5, 6] (fun v i wr => ∃ k : Nat, k ≤ xs.length ∧ i = .int .i64 k ∧ ∃ A' c', v = .slice A' (wo n (xs.take k)).length c' ∧ Own wr w.heap.size 3 (.int .i64) (.slice A' (wo n (xs.take k)).length c') (wo n (xs.take k)) ∧ Below w.heap.size w wr)
    (fun _ i _ => xs.length - (intOf i).toNat)
  case atStart => exact ⟨0, by omega, rfl, none, 0, rfl, World.ownsRow_nil _ _ _ _, Below.refl _ _⟩
  case round =>
    obtain ⟨k, hk, rfl, A', c', rfl, ho, hb⟩ := hrel
    by_cases hlt : k < xs.length
    · obtain ⟨b, off, x, rfl, hbl, hx, hc⟩ := (HN.out.ext hb).at_ hlt
      have HX := Lib.hid hx
      clear hx
      have hlw := wo_len n (xs.take k)
      have hlt2 : (xs.take k).length ≤ k := List.length_take_le _ _
      obtain ⟨zs, hzs⟩ : ∃ zs, wo n (xs.take k) = zs := ⟨_, rfl⟩
      rw [hzs] at ho hlw ⊢
      have HZ := Lib.hid hzs
      clear hzs
      by_cases hne : x = n
      · have hne' : (x != n) = false := by simp [hne]
        have HE := Lib.hid hne
        clear hne
        have HO := Lib.hid ho
        clear ho
        go_wp2
        go_roundw
        case rel => exact ⟨k + 1, by omega, by go_num, A', c', by rw [take_snoc' HX.out, wo_drop HE.out, HZ.out], by rw [take_snoc' HX.out, wo_drop HE.out, HZ.out]; exact HO.out, hb⟩
        case measure => simp [intOf]; omega
      · have hne' : (x != n) = true := by simpa using hne
        have HE := Lib.hid hne
        clear hne
        have hsf : Sl (wr.alloc (.cells #[.int .i64 x] 3)) (Value.int .i64) (some ⟨wr.heap.size, 0, none⟩) [x] := Sl.of_lit (t := 3) (Blk.new_ rfl rfl)
        have ho2 := ho.below (w' := wr.alloc (.cells #[.int .i64 x] 3)) (by repeat' (first | with_reducible exact Below.refl _ _ | with_reducible assumption | with_reducible apply Below.drew | with_reducible apply below_drewN | with_reducible apply Below.alloc | with_reducible apply Below.setCell | (with_reducible refine Below.trans ?_ (Below.mono (by assumption) ?_)) | (simp; done) | (simp; omega) | omega | with_reducible apply le_size_alloc | with_reducible apply le_size_drewN | with_reducible apply le_size_drew | with_reducible apply le_size_setCell | refine Nat.le_trans ?_ (Below.size (by assumption))))
        have HO := Lib.hid ho2; have HSF := Lib.hid hsf
        have hz := hb.size
        clear ho ho2 hsf
        go_wp2_with (at_builtin; refine wpList_appS (mk := Value.int .i64) _ rfl (.tmp 19) (.tmp 24) _ rfl 3 i0 _ 8 Try.underlying22 hi0 hz0 hz1 hz2 rfl w.heap.size A' c' zs rfl HO.out (some ⟨wr.heap.size, 0, none⟩) 1 [x] rfl HSF.out (int_one [x]) (by simp; omega) (by simp; omega) (by simp; omega) ?_; intro A5 c5 w5 ho5 hg5 hl5; have HO5 := Lib.hid ho5; have HG5 := Lib.hid hg5; clear ho5 hg5 hl5)
        go_roundw
        case rel =>
          refine ⟨k + 1, by omega, by go_num, A5, c5, by rw [take_snoc' HX.out, wo_keep HE.out, HZ.out]; simp, by rw [take_snoc' HX.out, wo_keep HE.out, HZ.out]; exact HO5.out, ?_⟩
          exact (hb.alloc (by omega) _).grown HG5.out (by simp; omega) (fun k hk => (HO.out.block k hk).1)
        case measure => simp [intOf]; omega
    · have HO := Lib.hid ho
      have e : xs.take k = xs := List.take_of_length_le (by omega)
      have HE := Lib.hid e
      clear ho e
      go_wp2
      go_ret
      rw [HE.out]
      exact ⟨A', c', rfl, by rw [← HE.out]; rw [HE.out]; have := HO.out; rw [HE.out] at this; exact this, hb⟩


set_option maxRecDepth 100000 in
set_option maxHeartbeats 1000000 in
theorem RRemove_bad (Aa Ai Ar : Option Addr) (ca ci cr : Nat) (xs ys : List Int) (rs : List Bool) (f : Int) (w : World) (hm : InMem w Aa Ai Ar xs ys rs) (z : Int) (hc : lruChd xs ys rs f = z) (hz : z ≠ 0) :
    Calls Try.prog 49 #[.agg #[.slice Aa xs.length ca, .slice Ai ys.length ci, .slice Ar rs.length cr], .int .i64 f] w (LPost (.bad z) w) := by
  have HM := Lib.hid hm
  clear hm
  have hne : (z != 0) = true := by simpa using hz
  have hne' : (z == 0) = false := by simpa using hz
  have HC := Lib.hid hc; have HZ := Lib.hid hz
  clear hc hz
  go_enter Try.func49, Try.ntmps49
  go_wp2_with fail
  have hm1 := HM.out.ext (w' := ((w.alloc (.cells #[.slice Aa xs.length ca, .slice Ai ys.length ci, .slice Ar rs.length cr] 25)).alloc (.cells #[.slice none 0 0, .slice none 0 0, .slice none 0 0] 25))) (by repeat' (first | with_reducible exact Below.refl _ _ | with_reducible assumption | with_reducible apply Below.drew | with_reducible apply below_drewN | with_reducible apply Below.alloc | with_reducible apply Below.setCell | (with_reducible refine Below.trans ?_ (Below.mono (by assumption) ?_)) | (simp; done) | (simp; omega) | omega | with_reducible apply le_size_alloc | with_reducible apply le_size_drewN | with_reducible apply le_size_drew | with_reducible apply le_size_setCell | refine Nat.le_trans ?_ (Below.size (by assumption))))
  refine (RWhere_S _ _ _ _ _ _ _ _ _ f _ hm1).mono ?_
  rw [HC.out, if_pos HZ.out]
  rintro e w1 ⟨rfl, hb1⟩
  have hbl1 : Below (w.heap.size + 2) ((w.alloc (.cells #[.slice Aa xs.length ca, .slice Ai ys.length ci, .slice Ar rs.length cr] 25)).alloc (.cells #[.slice none 0 0, .slice none 0 0, .slice none 0 0] 25)) w1 := (by repeat' (first | with_reducible exact Below.refl _ _ | with_reducible assumption | with_reducible apply Below.drew | with_reducible apply below_drewN | with_reducible apply Below.alloc | with_reducible apply Below.setCell | (with_reducible refine Below.trans ?_ (Below.mono (by assumption) ?_)) | (simp; done) | (simp; omega) | omega | with_reducible apply le_size_alloc | with_reducible apply le_size_drewN | with_reducible apply le_size_drew | with_reducible apply le_size_setCell | refine Nat.le_trans ?_ (Below.size (by assumption))))
  have q0 : w1.cell? ⟨w.heap.size + 1, 0, none⟩ = some (.slice none 0 0) := cell_keep hbl1 (by simp) (by simp)
  have q1 : w1.cell? ⟨w.heap.size + 1, 1, none⟩ = some (.slice none 0 0) := cell_keep hbl1 (by simp) (by simp)
  have q2 : w1.cell? ⟨w.heap.size + 1, 2, none⟩ = some (.slice none 0 0) := cell_keep hbl1 (by simp) (by simp)
  have q3 : w1.frozen? ⟨w.heap.size + 1, 0, none⟩ = false := frozen_keep hbl1 (by simp) (by simp)
  have q4 : w1.frozen? ⟨w.heap.size + 1, 1, none⟩ = false := frozen_keep hbl1 (by simp) (by simp)
  have q5 : w1.frozen? ⟨w.heap.size + 1, 2, none⟩ = false := frozen_keep hbl1 (by simp) (by simp)
  go_wp2
  refine bodyPost_ret (v := .tuple #[.agg #[.slice none 0 0, .slice none 0 0, .slice none 0 0], .int .i64 z]) (by simp [results, Try.results49, go_sem, q0, q1, q2]) rfl ?_
  exact LPost.of_bad ⟨rfl, (by repeat' (first | with_reducible exact Below.refl _ _ | with_reducible assumption | with_reducible apply Below.drew | with_reducible apply below_drewN | with_reducible apply Below.alloc | with_reducible apply Below.setCell | (with_reducible refine Below.trans ?_ (Below.mono (by assumption) ?_)) | (simp; done) | (simp; omega) | omega | with_reducible apply le_size_alloc | with_reducible apply le_size_drewN | with_reducible apply le_size_drew | with_reducible apply le_size_setCell | refine Nat.le_trans ?_ (Below.size (by assumption))))⟩

set_option maxRecDepth 100000 in
set_option maxHeartbeats 1000000 in
theorem RRemove_no (Aa Ai Ar : Option Addr) (ca ci cr : Nat) (xs ys : List Int) (rs : List Bool) (f : Int) (w : World) (hm : InMem w Aa Ai Ar xs ys rs) (hc : lruChd xs ys rs f = 0) (hwh : fWhere xs ys f = 0) :
    Calls Try.prog 49 #[.agg #[.slice Aa xs.length ca, .slice Ai ys.length ci, .slice Ar rs.length cr], .int .i64 f] w (LPost (.bad 6) w) := by
  have HM := Lib.hid hm
  clear hm
  have HC := Lib.hid hc; have HWH := Lib.hid hwh
  clear hc hwh
  go_enter Try.func49, Try.ntmps49
  go_wp2_with fail
  have hm1 := HM.out.ext (w' := ((w.alloc (.cells #[.slice Aa xs.length ca, .slice Ai ys.length ci, .slice Ar rs.length cr] 25)).alloc (.cells #[.slice none 0 0, .slice none 0 0, .slice none 0 0] 25))) (by repeat' (first | with_reducible exact Below.refl _ _ | with_reducible assumption | with_reducible apply Below.drew | with_reducible apply below_drewN | with_reducible apply Below.alloc | with_reducible apply Below.setCell | (with_reducible refine Below.trans ?_ (Below.mono (by assumption) ?_)) | (simp; done) | (simp; omega) | omega | with_reducible apply le_size_alloc | with_reducible apply le_size_drewN | with_reducible apply le_size_drew | with_reducible apply le_size_setCell | refine Nat.le_trans ?_ (Below.size (by assumption))))
  refine (RWhere_S _ _ _ _ _ _ _ _ _ f _ hm1).mono ?_
  rw [HC.out, if_neg (by simp), HWH.out]
  rintro e w1 ⟨rfl, hb1⟩
  have hbl1 : Below (w.heap.size + 2) ((w.alloc (.cells #[.slice Aa xs.length ca, .slice Ai ys.length ci, .slice Ar rs.length cr] 25)).alloc (.cells #[.slice none 0 0, .slice none 0 0, .slice none 0 0] 25)) w1 := (by repeat' (first | with_reducible exact Below.refl _ _ | with_reducible assumption | with_reducible apply Below.drew | with_reducible apply below_drewN | with_reducible apply Below.alloc | with_reducible apply Below.setCell | (with_reducible refine Below.trans ?_ (Below.mono (by assumption) ?_)) | (simp; done) | (simp; omega) | omega | with_reducible apply le_size_alloc | with_reducible apply le_size_drewN | with_reducible apply le_size_drew | with_reducible apply le_size_setCell | refine Nat.le_trans ?_ (Below.size (by assumption))))
  have q0 : w1.cell? ⟨w.heap.size + 1, 0, none⟩ = some (.slice none 0 0) := cell_keep hbl1 (by simp) (by simp)
  have q1 : w1.cell? ⟨w.heap.size + 1, 1, none⟩ = some (.slice none 0 0) := cell_keep hbl1 (by simp) (by simp)
  have q2 : w1.cell? ⟨w.heap.size + 1, 2, none⟩ = some (.slice none 0 0) := cell_keep hbl1 (by simp) (by simp)
  have q3 : w1.frozen? ⟨w.heap.size + 1, 0, none⟩ = false := frozen_keep hbl1 (by simp) (by simp)
  have q4 : w1.frozen? ⟨w.heap.size + 1, 1, none⟩ = false := frozen_keep hbl1 (by simp) (by simp)
  have q5 : w1.frozen? ⟨w.heap.size + 1, 2, none⟩ = false := frozen_keep hbl1 (by simp) (by simp)
  go_wp2
  refine bodyPost_ret (v := .tuple #[.agg #[.slice none 0 0, .slice none 0 0, .slice none 0 0], .int .i64 6]) (by simp [results, Try.results49, go_sem, q0, q1, q2]) rfl ?_
  exact LPost.of_bad ⟨rfl, (by repeat' (first | with_reducible exact Below.refl _ _ | with_reducible assumption | with_reducible apply Below.drew | with_reducible apply below_drewN | with_reducible apply Below.alloc | with_reducible apply Below.setCell | (with_reducible refine Below.trans ?_ (Below.mono (by assumption) ?_)) | (simp; done) | (simp; omega) | omega | with_reducible apply le_size_alloc | with_reducible apply le_size_drewN | with_reducible apply le_size_drew | with_reducible apply le_size_setCell | refine Nat.le_trans ?_ (Below.size (by assumption))))⟩

end Go.Proofs.Ytiobbdfkimpfbaa
