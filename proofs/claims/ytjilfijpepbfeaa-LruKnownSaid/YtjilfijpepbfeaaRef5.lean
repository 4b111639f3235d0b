/- Contract of headgateref07.Order. -/
import Derived.Test.YtjilfijpepbfeaaRef4
namespace Go.Proofs.Ytjilfijpepbfeaa
open Go.RowKit Go.Maps

theorem ord_step {xs ys : List Int} {rs : List Bool} {f : Int} (hc : lruChk xs ys rs = 0) (h : lastV xs ys rs = (f, 0)) :
    ys.reverse ++ xs.reverse = f :: ((wo f ys).reverse ++ (wo f xs).reverse) ∧ lruChd xs ys rs f = 0 ∧ fWhere xs ys f ≠ 0 := by
  have hv := valid_of_chk hc
  have hnd := List.nodup_append.1 hv.nodup
  by_cases hy : 0 < ys.length
  · rw [lastV_ys hc hy] at h
    injection h with h
    have hm : f ∈ ys := by rw [← h]; exact lastF_mem hy
    have hx : f ∉ xs := fun hx => hnd.2.2 f hx f hm rfl
    have hr := hv.range f (by simp [hm])
    refine ⟨?_, chd_of hc hr.1 hr.2, by unfold fWhere; rw [if_neg hx, if_pos hm]; simp⟩
    have e := wo_lastF hnd.2.1 hy
    rw [h] at e
    rw [wo_self hx, e, erase_last' hy]
    show lastF ys :: _ ++ _ = _
    rw [h]; rfl
  · by_cases hx : 0 < xs.length
    · rw [lastV_xs hc (by omega) hx] at h
      injection h with h
      obtain rfl : ys = [] := List.eq_nil_of_length_eq_zero (by omega)
      have hm : f ∈ xs := by rw [← h]; exact lastF_mem hx
      have hr := hv.range f (by simp [hm])
      refine ⟨?_, chd_of hc hr.1 hr.2, by unfold fWhere; rw [if_pos hm]; simp⟩
      have e := wo_lastF hnd.1 hx
      rw [h] at e
      rw [e, erase_last' hx]
      show [] ++ lastF xs :: _ = _
      rw [h]; rfl
    · rw [lastV_none hc (by omega) (by omega)] at h
      injection h with _ h
      cases h
theorem lastV_err {xs ys : List Int} {rs : List Bool} (hc : lruChk xs ys rs = 0) : (lastV xs ys rs = (0, 6) ∧ ys.reverse ++ xs.reverse = []) ∨ ∃ f, lastV xs ys rs = (f, 0) := by
  by_cases hy : 0 < ys.length
  · exact .inr ⟨_, lastV_ys hc hy⟩
  · by_cases hx : 0 < xs.length
    · exact .inr ⟨_, lastV_xs hc (by omega) hx⟩
    · refine .inl ⟨lastV_none hc (by omega) (by omega), ?_⟩
      rw [List.eq_nil_of_length_eq_zero (show ys.length = 0 by omega), List.eq_nil_of_length_eq_zero (show xs.length = 0 by omega)]; rfl

/-- The lists do not lie in the block of a row. -/
def Dj (A5 A1 A2 A3 : Option Addr) : Prop := ∀ g, A5.map (·.block) = some g → A1.map (·.block) ≠ some g ∧ A2.map (·.block) ≠ some g ∧ A3.map (·.block) ≠ some g
theorem Sl.grown_ {α : Type} {w w' : World} {mk : α → Value} {A : Option Addr} {xs : List α} {row : Option Nat} (h : Sl w mk A xs) (hg : w.grownBy w' row) (hn : ∀ g, row = some g → A.map (·.block) ≠ some g) : Sl w' mk A xs := fun hp => by
  obtain ⟨b, off, e, hb, hc⟩ := h hp
  refine ⟨b, off, e, Nat.lt_of_lt_of_le hb hg.size, fun j x hx => ?_⟩
  have := hg.block b hb (fun e' => hn b e'.symm (by rw [e]; rfl))
  exact (World.cell?_of_block (a := ⟨b, off + j, none⟩) this).trans (hc j x hx)
theorem InMem.grown_ {w w' : World} {A1 A2 A3 A5 : Option Addr} {xs ys : List Int} {rs : List Bool} (h : InMem w A1 A2 A3 xs ys rs) (hg : w.grownBy w' (A5.map (·.block))) (hn : Dj A5 A1 A2 A3) : InMem w' A1 A2 A3 xs ys rs :=
  ⟨h.a.grown_ hg (fun g e => (hn g e).1), h.i.grown_ hg (fun g e => (hn g e).2.1), h.r.grown_ hg (fun g e => (hn g e).2.2), h.la, h.li, h.lr, h.wa, h.wi⟩

set_option maxHeartbeats 400000 in
theorem ROrder_bad (Aa Ai Ar : Option Addr) (ca ci cr : Nat) (xs ys : List Int) (rs : List Bool) (z : Int) (w : World) (hm : InMem w Aa Ai Ar xs ys rs) (hc : lruChk xs ys rs = z) (hz : z ≠ 0) :
    Calls Try.prog 41 #[.agg #[.slice Aa xs.length ca, .slice Ai ys.length ci, .slice Ar rs.length cr]] w fun e w' => e = .returned (.tuple #[.slice none 0 0, .int .i64 z]) ∧ Below w.heap.size w w' := by
  have HM := Lib.hid hm; have HC := Lib.hid hc
  clear hm hc
  have hne : (z != 0) = true := by simpa using hz
  clear hz
  go_enter Try.func41, Try.ntmps41
  go_wp2_with fail
  refine (RCheck_any _ _ _ _ _ _ _ _ _ _ (HM.out.ext (by repeat' (first | with_reducible exact Below.refl _ _ | with_reducible assumption | with_reducible apply Below.drew | with_reducible apply below_drewN | with_reducible apply Below.alloc | with_reducible apply Below.setCell | (with_reducible refine Below.trans ?_ (Below.mono (by assumption) ?_)) | (simp; done) | (simp; omega) | omega | with_reducible apply le_size_alloc | with_reducible apply le_size_drewN | with_reducible apply le_size_drew | with_reducible apply le_size_setCell | refine Nat.le_trans ?_ (Below.size (by assumption)))))).mono ?_
  rw [HC.out]
  rintro e w1 ⟨rfl, hb1⟩
  go_wp2
  go_ret2
  exact ⟨rfl, (by repeat' (first | with_reducible exact Below.refl _ _ | with_reducible assumption | with_reducible apply Below.drew | with_reducible apply below_drewN | with_reducible apply Below.alloc | with_reducible apply Below.setCell | (with_reducible refine Below.trans ?_ (Below.mono (by assumption) ?_)) | (simp; done) | (simp; omega) | omega | with_reducible apply le_size_alloc | with_reducible apply le_size_drewN | with_reducible apply le_size_drew | with_reducible apply le_size_setCell | refine Nat.le_trans ?_ (Below.size (by assumption))))⟩

set_option maxRecDepth 100000 in
set_option maxHeartbeats 2000000 in
theorem ROrder_ok (Aa Ai Ar : Option Addr) (ca ci cr : Nat) (xs ys : List Int) (rs : List Bool) (w : World) (hm : InMem w Aa Ai Ar xs ys rs) (hc : lruChk xs ys rs = 0) :
    Calls Try.prog 41 #[.agg #[.slice Aa xs.length ca, .slice Ai ys.length ci, .slice Ar rs.length cr]] w (OPost (ys.reverse ++ xs.reverse) 0 w) := by
  have hv := valid_of_chk hc
  have hlen := hv.len
  have hhi := hv.hi
  have HM := Lib.hid hm; have HC := Lib.hid hc
  have htl : (ys.reverse ++ xs.reverse).length ≤ 256 := by simp; omega
  clear hm hc hv
  obtain ⟨i0, hi0, hz0, hz1, hz2⟩ := info_parts intInfo
  go_enter Try.func41, Try.ntmps41
  go_wp2_with fail
  have hm1 := HM.out.ext (w' := (w.alloc (.cells #[.slice Aa xs.length ca, .slice Ai ys.length ci, .slice Ar rs.length cr] 25))) (by repeat' (first | with_reducible exact Below.refl _ _ | with_reducible assumption | with_reducible apply Below.drew | with_reducible apply below_drewN | with_reducible apply Below.alloc | with_reducible apply Below.setCell | (with_reducible refine Below.trans ?_ (Below.mono (by assumption) ?_)) | (simp; done) | (simp; omega) | omega | with_reducible apply le_size_alloc | with_reducible apply le_size_drewN | with_reducible apply le_size_drew | with_reducible apply le_size_setCell | refine Nat.le_trans ?_ (Below.size (by assumption))))
  refine (RCheck_any _ _ _ _ _ _ _ _ _ _ hm1).mono ?_
  rw [HC.out]
  rintro e w1 ⟨rfl, hb1⟩
  have bk1 : Blk w1 w.heap.size 25 #[.slice Aa xs.length ca, .slice Ai ys.length ci, .slice Ar rs.length cr] := (Blk.new_ (w := w) rfl rfl).below_ hb1 (by simp)
  have M1 := Lib.hid (hm1.ext hb1); have BK1 := Lib.hid bk1
  clear hm1 bk1
  go_wp2_with fail
  go_loopw [5] (fun v wr => ∃ A5 c5 os A1 c1 A2 c2 A3 c3 us vs ts, v = .slice A5 os.length c5 ∧ Own wr (w.heap.size + 1) 3 (.int .i64) (.slice A5 os.length c5) os ∧
      Blk wr w.heap.size 25 #[.slice A1 us.length c1, .slice A2 vs.length c2, .slice A3 ts.length c3] ∧ InMem wr A1 A2 A3 us vs ts ∧ Hid (lruChk us vs ts = 0) ∧ Hid (os ++ (vs.reverse ++ us.reverse) = ys.reverse ++ xs.reverse) ∧ Dj A5 A1 A2 A3 ∧ Below w.heap.size w wr)
    (fun v _ => (ys.reverse ++ xs.reverse).length - lenOf v)
  case atStart => exact ⟨none, 0, [], Aa, ca, Ai, ci, Ar, cr, xs, ys, rs, rfl, World.ownsRow_nil _ _ _ _, BK1.out, M1.out, HC, rfl, fun g e => by simp at e, (by repeat' (first | with_reducible exact Below.refl _ _ | with_reducible assumption | with_reducible apply Below.drew | with_reducible apply below_drewN | with_reducible apply Below.alloc | with_reducible apply Below.setCell | (with_reducible refine Below.trans ?_ (Below.mono (by assumption) ?_)) | (simp; done) | (simp; omega) | omega | with_reducible apply le_size_alloc | with_reducible apply le_size_drewN | with_reducible apply le_size_drew | with_reducible apply le_size_setCell | refine Nat.le_trans ?_ (Below.size (by assumption))))⟩
  case round =>
    obtain ⟨A5, c5, os, A1, c1, A2, c2, A3, c3, us, vs, ts, rfl, ho, bk, hm, HCK, HL, hdj, hbw⟩ := hrel
    have HDJ := Lib.hid hdj
    clear hdj
    have hlo : os.length ≤ (ys.reverse ++ xs.reverse).length := by rw [← HL.out]; simp
    have hzw := bk.lt
    have k0 := (bk.cell_ 0).trans (by simp : _ = some (.slice A1 us.length c1))
    have k1 := (bk.cell_ 1).trans (by simp : _ = some (.slice A2 vs.length c2))
    have k2 := (bk.cell_ 2).trans (by simp : _ = some (.slice A3 ts.length c3))
    have HO := Lib.hid ho; have BK := Lib.hid bk; have M := Lib.hid hm
    clear ho bk hm
    rcases lastV_err HCK.out with ⟨hlv, hnil⟩ | ⟨f, hlv⟩
    · have HLV := Lib.hid hlv
      have HE : Hid (os = ys.reverse ++ xs.reverse) := by show _ = _; rw [← HL.out, hnil, List.append_nil]
      clear hlv hnil
      go_wp2_with fail
      refine (RLast_S _ _ _ _ _ _ _ _ _ _ M.out).mono ?_
      rw [HLV.out]
      rintro e w2 ⟨rfl, hb2⟩
      clear k0 k1 k2
      go_wp2
      go_ret2
      rw [← HE.out]
      exact ⟨A5, c5, rfl, (HO.out.below hb2).sl_, (by repeat' (first | with_reducible exact Below.refl _ _ | with_reducible assumption | with_reducible apply Below.drew | with_reducible apply below_drewN | with_reducible apply Below.alloc | with_reducible apply Below.setCell | (with_reducible refine Below.trans ?_ (Below.mono (by assumption) ?_)) | (simp; done) | (simp; omega) | omega | with_reducible apply le_size_alloc | with_reducible apply le_size_drewN | with_reducible apply le_size_drew | with_reducible apply le_size_setCell | refine Nat.le_trans ?_ (Below.size (by assumption))))⟩
    · obtain ⟨hst, hch, hwh⟩ := ord_step HCK.out hlv
      have hlv' : (lastV us vs ts).1 = f ∧ (lastV us vs ts).2 = 0 := by rw [hlv]; exact ⟨rfl, rfl⟩
      have hrem : remS us vs ts f = ⟨wo f us, wo f vs, ts.set f.toNat false, 0⟩ := by unfold remS; rw [if_neg (by simpa using hch), if_neg hwh]
      have hck' : lruChk (wo f us) (wo f vs) (ts.set f.toNat false) = 0 := chk_rem (valid_of_chk HCK.out) (chd_ok hch).2.1
      have hlo' : os.length + 1 ≤ (ys.reverse ++ xs.reverse).length := by rw [← HL.out, hst]; simp
      have HL2 : Hid ((os ++ [f]) ++ ((wo f vs).reverse ++ (wo f us).reverse) = ys.reverse ++ xs.reverse) := by show _ = _; rw [← HL.out, hst]; simp
      have HLV := Lib.hid hlv'; have HREM := Lib.hid hrem; have HCK2 := Lib.hid hck'
      clear hlv hlv' hst hch hwh hrem hck'
      obtain ⟨us', hus⟩ : ∃ us', wo f us = us' := ⟨_, rfl⟩
      obtain ⟨vs', hvs⟩ : ∃ vs', wo f vs = vs' := ⟨_, rfl⟩
      obtain ⟨ts', hts⟩ : ∃ ts', ts.set f.toNat false = ts' := ⟨_, rfl⟩
      rw [hus, hvs, hts] at HREM HCK2
      rw [hus, hvs] at HL2
      clear hus hvs hts
      go_wp2_with fail
      refine (RLast_S _ _ _ _ _ _ _ _ _ _ M.out).mono ?_
      rw [HLV.out.1, HLV.out.2]
      rintro e w2 ⟨rfl, hb2⟩
      have hz2 : wr.heap.size ≤ w2.heap.size := hb2.size
      have bk2 := BK.out.below_ hb2 hzw
      have ho2 := (HO.out.below hb2).below (w' := w2.alloc (.cells #[.int .i64 f] 3)) (by repeat' (first | with_reducible exact Below.refl _ _ | with_reducible assumption | with_reducible apply Below.drew | with_reducible apply below_drewN | with_reducible apply Below.alloc | with_reducible apply Below.setCell | (with_reducible refine Below.trans ?_ (Below.mono (by assumption) ?_)) | (simp; done) | (simp; omega) | omega | with_reducible apply le_size_alloc | with_reducible apply le_size_drewN | with_reducible apply le_size_drew | with_reducible apply le_size_setCell | refine Nat.le_trans ?_ (Below.size (by assumption))))
      have hsf : Sl (w2.alloc (.cells #[.int .i64 f] 3)) (Value.int .i64) (some ⟨w2.heap.size, 0, none⟩) [f] := Sl.of_lit (t := 3) (Blk.new_ rfl rfl)
      have HO2 := Lib.hid ho2; have HSF := Lib.hid hsf; have BK2 := Lib.hid bk2; have HB2 := Lib.hid hb2
      clear ho2 hsf bk2 k0 k1 k2
      go_wp2_with (at_builtin; refine wpList_appS (mk := Value.int .i64) _ rfl (.tmp 21) (.tmp 23) _ rfl 3 i0 _ 8 Try.underlying22 hi0 hz0 hz1 (by assumption) rfl (w.heap.size + 1) A5 c5 os rfl HO2.out (some ⟨w2.heap.size, 0, none⟩) 1 [f] rfl HSF.out (int_one [f]) (by simp; omega) (by simp; omega) (by simp; omega) ?_
                   intro A6 c6 w3 ho3 hg3 hl3
                   have b3 : Below (w.heap.size + 1) (w2.alloc (.cells #[.int .i64 f] 3)) w3 := (Below.refl _ _).grown hg3 (by simp; omega) (fun k hk => by have := (HO2.out.block k hk).1; omega)
                   have hM3 : InMem w3 A1 A2 A3 us vs ts := ((M.out.ext HB2.out).ext (w' := w2.alloc (.cells #[.int .i64 f] 3)) (by repeat' (first | with_reducible exact Below.refl _ _ | with_reducible assumption | with_reducible apply Below.drew | with_reducible apply below_drewN | with_reducible apply Below.alloc | with_reducible apply Below.setCell | (with_reducible refine Below.trans ?_ (Below.mono (by assumption) ?_)) | (simp; done) | (simp; omega) | omega | with_reducible apply le_size_alloc | with_reducible apply le_size_drewN | with_reducible apply le_size_drew | with_reducible apply le_size_setCell | refine Nat.le_trans ?_ (Below.size (by assumption))))).grown_ hg3 HDJ.out
                   have bk3 := (BK2.out.alloc_ (.cells #[.int .i64 f] 3)).below_ b3 (by omega)
                   have k0 := (bk3.cell_ 0).trans (by simp : _ = some (.slice A1 us.length c1))
                   have k1 := (bk3.cell_ 1).trans (by simp : _ = some (.slice A2 vs.length c2))
                   have k2 := (bk3.cell_ 2).trans (by simp : _ = some (.slice A3 ts.length c3))
                   have HO3 := Lib.hid ho3; have HM3 := Lib.hid hM3; have BK3 := Lib.hid bk3; have HB3 := Lib.hid b3
                   clear ho3 hg3 hl3 hM3 bk3 b3)
      refine (RRemove_S _ _ _ _ _ _ _ _ _ _ HM3.out f).mono ?_
      unfold LPost
      rw [HREM.out]
      rintro e w4 ⟨B1, b1, B2, b2, B3, b3, rfl, m4, n4, hb4⟩
      have hz3 : w2.heap.size + 1 ≤ w3.heap.size := by have := HB3.out.size; simpa using this
      have hz4 : w3.heap.size ≤ w4.heap.size := hb4.size
      have bk4 := BK3.out.below_ hb4 (by omega)
      have hol : ∀ g, A6.map (·.block) = some g → g < w3.heap.size := fun g e => (HO3.out.block g e).2
      have k3 := (bk4.cell_ 0).trans (by simp : _ = some (.slice A1 us.length c1))
      have k4 := (bk4.cell_ 1).trans (by simp : _ = some (.slice A2 vs.length c2))
      have k5 := (bk4.cell_ 2).trans (by simp : _ = some (.slice A3 ts.length c3))
      have k6 := bk4.frozen_ 0
      have k7 := bk4.frozen_ 1
      have k8 := bk4.frozen_ 2
      have M4 := Lib.hid m4; have N4 := Lib.hid n4; have HB4 := Lib.hid hb4; have BK4 := Lib.hid bk4; have HOL := Lib.hid hol
      clear k0 k1 k2 m4 n4 hb4 bk4 hol
      go_wp2
      go_roundw
      case rel =>
        have hf6 : A6.map (·.block) ≠ some w.heap.size := fun e => by have := (HO3.out.block _ e).1; omega
        have o4 := HO3.out.below HB4.out
        refine ⟨A6, c6, os ++ [f], B1, b1, B2, b2, B3, b3, us', vs', ts', by simp, ((o4.far_ _ _ hf6).far_ _ _ hf6).far_ _ _ hf6, ?_, ((M4.out.far_ N4.out (by omega) _ _).far_ N4.out (by omega) _ _).far_ N4.out (by omega) _ _, HCK2, HL2, ?_, ?_⟩
        · have := ((BK4.out.set_ 0 (.slice B1 us'.length b1)).set_ 1 (.slice B2 vs'.length b2)).set_ 2 (.slice B3 ts'.length b3)
          simpa using this
        · intro g e
          have h1 := HOL.out g e
          exact ⟨fun e' => by have := N4.out.a g e'; omega, fun e' => by have := N4.out.i g e'; omega, fun e' => by have := N4.out.r g e'; omega⟩
        · have hb5 : Below w.heap.size w w3 := ((hbw.trans (HB2.out.mono (by omega))).alloc (by omega) _).trans (HB3.out.mono (by omega))
          have hb6 : Below w.heap.size w w4 := hb5.trans (HB4.out.mono (by omega))
          exact ((hb6.setCell (Nat.le_refl _) _).setCell (Nat.le_refl _) _).setCell (Nat.le_refl _) _
      case measure => simp only [lenOf]; simp at hlo' ⊢; omega
theorem ROrder_S (Aa Ai Ar : Option Addr) (ca ci cr : Nat) (xs ys : List Int) (rs : List Bool) (w : World) (hm : InMem w Aa Ai Ar xs ys rs) :
    Calls Try.prog 41 #[.agg #[.slice Aa xs.length ca, .slice Ai ys.length ci, .slice Ar rs.length cr]] w (OPost (ordL xs ys rs) (lruChk xs ys rs) w) := by
  unfold ordL
  by_cases h0 : lruChk xs ys rs ≠ 0
  · rw [if_pos h0]
    exact (ROrder_bad _ _ _ _ _ _ _ _ _ _ _ hm rfl h0).mono fun _ _ h => ⟨none, 0, h.1, Sl.nil, h.2⟩
  · rw [if_neg h0]
    have h0' : lruChk xs ys rs = 0 := by simpa using h0
    rw [h0']
    exact ROrder_ok _ _ _ _ _ _ _ _ _ _ hm h0'
end Go.Proofs.Ytjilfijpepbfeaa
