import Derived.Test.YthijbipidbjpfaaGreatDoorZW21
import Derived.Test.YthijbipidbjpfaaGreatDoorZW14
import Derived.Test.YthijbipidbjpfaaGreatDoorZW00
import Derived.Test.YthijbipidbjpfaaGreatDoorZW03
import Derived.Test.YthijbipidbjpfaaGreatDoorZW13
import Derived.Test.YthijbipidbjpfaaGreatDoorZW06
import Derived.BigQuiet
import Derived.Test.YthijbipidbjpfaaGreatDoorZW07
set_option linter.unusedSimpArgs false
set_option linter.unusedVariables false
set_option maxRecDepth 100000
set_option maxHeartbeats 8000000
namespace Go.Proofs.YthijbipidbjpfaaGreatDoor
open Go.RowKit Go.Maps
theorem rsCheck_any (A B : Option Addr) (c d : Nat) (s : Sts) (w : World) (ha : SR intE w A s.refs) (la : s.refs.length ≤ 1000) (lb : s.busy.length ≤ 1000) {z : Int} {k0 : Nat} (h : chkT s = (z, k0)) :
  Calls Tryz.prog 114 #[stV A c B d s] w fun e w' => e = .returned (.tuple #[.int .i64 z, .int .i64 k0]) ∧ Below w.heap.size w w' := by
 obtain ⟨refs, busy⟩ := s
 dsimp only at *
 have HA := Lib.hid ha.sl
 obtain ⟨n, hn⟩ : ∃ n, refs.length = n := ⟨_, rfl⟩
 obtain ⟨m, hm⟩ : ∃ m, busy.length = m := ⟨_, rfl⟩
 unfold stV
 unfold chkT at h
 dsimp only at h ⊢
 rw [hn, hm] at h ⊢
 have HN := Lib.hid hn
 rw [hn] at la
 rw [hm] at lb
 clear ha hn hm
 by_cases h1 : n < 1
 ·rw [if_pos (.inl h1)] at h
  cases h
  have i1 : (n : Int) < 1 := by omega
  go_enter Tryz.func114, Tryz.ntmps114
  go_wp2_with fail
  refine bodyPost_ret (by simp [results, Tryz.results114, go_sem] <;> rfl) rfl ?_
  exact ⟨rfl, zbl⟩
 ·by_cases h2 : 256 < n
  ·rw [if_pos (.inr h2)] at h
   cases h
   have i1 : ¬ (n : Int) < 1 := by omega
   have i2 : (256 : Int) < n := by omega
   go_enter Tryz.func114, Tryz.ntmps114
   go_wp2_with fail
   refine bodyPost_ret (by simp [results, Tryz.results114, go_sem] <;> rfl) rfl ?_
   exact ⟨rfl, zbl⟩
  ·rw [if_neg (by omega)] at h
   have i1 : ¬ (n : Int) < 1 := by omega
   have i2 : ¬ (256 : Int) < n := by omega
   by_cases h3 : m ≠ n
   ·rw [if_pos h3] at h
    cases h
    have i3 : ((m : Int) != (n : Int)) = true := by simp; omega
    go_enter Tryz.func114, Tryz.ntmps114
    go_wp2_with fail
    refine bodyPost_ret (by simp [results, Tryz.results114, go_sem] <;> rfl) rfl ?_
    exact ⟨rfl, zbl⟩
   ·rw [if_neg h3] at h
    obtain rfl : m = n := by omega
    have HH : Hid ((match refs.findIdx? (fun r => decide (r < 0 ∨ 512 < r)) with | none => ((0 : Int), 0) | some i => (15, i)) = (z, k0)) := h
    clear h
    go_enter Tryz.func114, Tryz.ntmps114
    go_wp2_with fail
    obtain ⟨V, hV⟩ : ∃ V, w.alloc (.cells #[.slice A m c, .slice B m d] 25) = V := ⟨_, rfl⟩
    have kV : Blk V w.heap.size 25 #[.slice A m c, .slice B m d] := by rw [← hV]; exact zbk
    have BV : Below w.heap.size w V := by rw [← hV]; exact zbl
    have zV := kV.lt
    rw [hV]
    clear hV
    go_loopw [4] (fun i wr => ∃ k : Nat, k ≤ m ∧ i = .int .i64 k ∧ Hid (∀ j y, j < k → refs[j]? = some y → 0 ≤ y ∧ y ≤ 512) ∧ Below V.heap.size V wr) (fun i _ => m - (intOf i).toNat)
    case atStart => exact ⟨0, by omega, rfl, (fun j y hj => by omega), Below.refl _ _⟩
    case round =>
     obtain ⟨k, hk, rfl, HR, hbw⟩ := hrel
     have hb := zbt BV hbw
     have p0 : wr.cell? ⟨w.heap.size, 0, none⟩ = some (.slice A m c) := by simpa using (kV.below_ hbw zV).cell_ 0
     have zr : w.heap.size < wr.heap.size := Nat.lt_of_lt_of_le zV hbw.size
     by_cases hlt : k < m
     ·obtain ⟨b, off, x, rfl, hbl, hx, q0⟩ := (HA.out.ext hb).at_ (k := k) (by rw [HN.out]; exact hlt)
      have i3 : (k : Int) < m := by omega
      by_cases e1 : x < 0
      ·have hc := HH.out
       rw [find_at hx HR.out (.inl e1)] at hc
       cases hc
       go_wp2_with fail
       refine bodyPost_ret (by simp [results, Tryz.results114, go_sem] <;> rfl) rfl ?_
       exact ⟨rfl, hb⟩
      ·by_cases e2 : 512 < x
       ·have hc := HH.out
        rw [find_at hx HR.out (.inr e2)] at hc
        cases hc
        go_wp2_with fail
        refine bodyPost_ret (by simp [results, Tryz.results114, go_sem] <;> rfl) rfl ?_
        exact ⟨rfl, hb⟩
       ·have HR2 : Hid (∀ j y, j < k + 1 → refs[j]? = some y → 0 ≤ y ∧ y ≤ 512) := fun j y hj hy => by
         by_cases e : j = k
         ·rw [e, hx] at hy; cases hy; omega
         ·exact HR.out j y (by omega) hy
        clear hx
        go_wp2_with fail
        go_roundw
        case rel => exact ⟨k + 1, by omega, by go_num, HR2.out, hbw⟩
        case measure => simp [intOf]; omega
     ·obtain rfl : k = m := by omega
      have hc := HH.out
      rw [find_no (fun j y hj => HR.out j y (by have := HN.out; omega))] at hc
      cases hc
      go_wp2_with fail
      refine bodyPost_ret (by simp [results, Tryz.results114, go_sem] <;> rfl) rfl ?_
      exact ⟨rfl, hb⟩
theorem rsFree_any (A B : Option Addr) (c d : Nat) (s : Sts) (k : Nat) (w : World) (ha : SR intE w A s.refs) (hb : SR boolE w B s.busy) (hk : k < s.refs.length) (hbl : s.busy.length = s.refs.length) :
  Calls Tryz.prog 146 #[stV A c B d s, .int .i64 k] w fun e w' => e = .returned (.bool (freT s k)) ∧ Below w.heap.size w w' := by
 obtain ⟨b1, o1, x1, rfl, hl1, hx1, hc1⟩ := ha.at_ hk
 obtain ⟨b2, o2, x2, rfl, hl2, hx2, hc2⟩ := hb.at_ (k := k) (by omega)
 have c1 := hc1 0 (.int .i64 x1) rfl
 have c2 := hc2 0 (.bool x2) rfl
 replace c1 : w.cell? ⟨b1, o1 + k, none⟩ = some (.int .i64 x1) := by simpa [show intE.sz = 1 from rfl] using c1
 replace c2 : w.cell? ⟨b2, o2 + k, none⟩ = some (.bool x2) := by simpa [show boolE.sz = 1 from rfl] using c2
 have HE : Hid (freT s k = (x1 == 0 && !x2)) := by
  show _ = _
  unfold freT refT bsyT
  rw [List.getD_eq_getElem?_getD, hx1, List.getD_eq_getElem?_getD, hx2]
  rfl
 have i1 : (k : Int) < s.refs.length := by omega
 have i2 : (k : Int) < s.busy.length := by omega
 clear ha hb hx1 hx2 hc1 hc2 hbl
 rw [HE.out]
 unfold stV
 have b0 : Below w.heap.size w (w.alloc (.cells #[.slice (some ⟨b1, o1, none⟩) s.refs.length c, .slice (some ⟨b2, o2, none⟩) s.busy.length d] 25)) := (Below.refl _ w).alloc (Nat.le_refl _) _
 have A1 := cell_keep b0 c1 hl1
 have A2 := cell_keep b0 c2 hl2
 have z1 : b1 < w.heap.size + 1 := by omega
 have z2 : b2 < w.heap.size + 1 := by omega
 cases e : (x1 == 0) with
 | true =>
  go_enter Tryz.func146, Tryz.ntmps146
  go_wp2_with fail
  go_ret
  exact ⟨by simp, zbl⟩
 | false =>
  go_enter Tryz.func146, Tryz.ntmps146
  go_wp2_with fail
  go_ret
  exact ⟨by simp, zbl⟩
theorem rsWith_any (A B : Option Addr) (c d : Nat) (s : Sts) (k : Nat) (r : Int) (b : Bool) (w : World) (ha : SR intE w A s.refs) (hb : SR boolE w B s.busy) (la : s.refs.length ≤ 1000) (hbl : s.busy.length = s.refs.length) (hk : k < s.refs.length) :
  Calls Tryz.prog 115 #[stV A c B d s, .int .i64 k, .int .i64 r, .bool b] w (BkPost (witT s k r b) w) := by
 have HA := Lib.hid ha
 have HB := Lib.hid hb
 have lb : s.busy.length ≤ 1000 := by omega
 have HBL := Lib.hid hbl
 unfold stV
 clear ha hb hbl
 obtain ⟨X, hX⟩ : ∃ X, (w.alloc (.cells #[.slice A s.refs.length c, .slice B s.busy.length d] 25)).alloc (.cells #[.slice none 0 0, .slice none 0 0] 25) = X := ⟨_, rfl⟩
 have kD : Blk X w.heap.size 25 #[.slice A s.refs.length c, .slice B s.busy.length d] := by rw [← hX]; exact zbk
 have kT := za2 hX
 have BX : Below w.heap.size w X := by rw [← hX]; exact zbl
 have hXs : X.heap.size = w.heap.size + 2 := by rw [← hX]; simp
 replace HA := Lib.hid (HA.out.ext BX)
 replace HB := Lib.hid (HB.out.ext BX)
 go_enter Tryz.func115, Tryz.ntmps115
 go_wp2_with fail
 (try rw [hX])
 clear hX
 refine zrg [2, 0, 1, 2, 2, 0, 1, 2, 0, 2, 3] [[], [], [], [], [], [], [], [], [3, 7], [], []] [.has (LitE), .is ?_, .kn ?_, .has (ClnF intE s.refs s.refs.length), .has (LitE), .is ?_, .kn ?_, .has (ClnF boolE s.busy s.busy.length), .fn [3, 7] (fun l => .agg #[l.getD 0 undef, l.getD 1 undef]), .has (VarN 25 [.slice none 0 0, .slice none 0 0]), .late] [10] (lts_has (LitE.lasts) (lts_is (lts_kn (lts_has (ClnF.lasts intE s.refs _) (lts_has (LitE.lasts) (lts_is (lts_kn (lts_has (ClnF.lasts boolE s.busy _) (lts_fn (lts_has (VarN.lasts 25 [.slice none 0 0, .slice none 0 0]) (lts_late lts_nil))))))))))) (fun W0 hb0 hz0 => ?_)
 rotate_left 4
 have kW := kD.below_ hb0 kD.lt
 have zW := kW.lt
 have kT0 := kT.below_ hb0 kT.lt
 replace HA := Lib.hid (HA.out.ext hb0)
 replace HB := Lib.hid (HB.out.ext hb0)
 obtain ⟨p0, p1⟩ := zc2 kW
 refine zqh (fun w hbw hd K Q' hK => ?_) (fun vwt0 => ?_)
 ·clear hd
  go_simp
  exact hK.out (.slice (some ⟨w.heap.size, 0, none⟩) 0 0) _ _ zpt zbm ⟨_, rfl⟩
 refine zqp ?_
 refine zqT (fun w hbw hd => ?_) ?_
 ·have q1 := cell_keep hbw p0 zW
  exact zgs
 refine zqh (fun w hbw hd K Q' hK => ?_) (fun vwt3 => ?_)
 ·obtain ⟨_, _, g, rfl⟩ : ∃ lo hi, LitE vwt0 lo hi w := hd 0 _ _ (by kernel_rfl) rfl rfl
  clear hd
  refine step_appF intE rfl (.tmp 10) (.tmp 12) _ rfl rfl w g A c s.refs.length s.refs rfl (HA.out.ext hbw) la rfl rfl ?_
  intro A' c' y ho hy
  exact hK.out (.slice A' s.refs.length c') _ _ zpt zbm ⟨A', c', rfl, ho⟩
 refine zqh (fun w hbw hd K Q' hK => ?_) (fun vwt4 => ?_)
 ·clear hd
  go_simp
  exact hK.out (.slice (some ⟨w.heap.size, 0, none⟩) 0 0) _ _ zpt zbm ⟨_, rfl⟩
 refine zqp ?_
 refine zqT (fun w hbw hd => ?_) ?_
 ·have q1 := cell_keep hbw p1 zW
  exact zgs
 refine zqh (fun w hbw hd K Q' hK => ?_) (fun vwt7 => ?_)
 ·obtain ⟨_, _, g, rfl⟩ : ∃ lo hi, LitE vwt4 lo hi w := hd 4 _ _ (by kernel_rfl) rfl rfl
  clear hd
  refine step_appF boolE rfl (.tmp 14) (.tmp 16) _ rfl rfl w g B d s.busy.length s.busy rfl (HB.out.ext hbw) lb rfl rfl ?_
  intro A' c' y ho hy
  exact hK.out (.slice A' s.busy.length c') _ _ zpt zbm ⟨A', c', rfl, ho⟩
 refine zqF (.agg #[vwt3, vwt7]) (fun w0 hd w => ?_) ?_
 ·obtain ⟨_, _, A', d', rfl, _⟩ : ∃ lo hi, ClnF intE s.refs s.refs.length vwt3 lo hi w0 := hd 3 _ _ (by kernel_rfl) rfl rfl
  obtain ⟨_, _, B', d', rfl, _⟩ : ∃ lo hi, ClnF boolE s.busy s.busy.length vwt7 lo hi w0 := hd 7 _ _ (by kernel_rfl) rfl rfl
  exact zsr
 refine zqh (fun w hbw hd K Q' hK => ?_) (fun vwt9 => ?_)
 ·clear hd
  go_simp
  exact hK.out (.pointer (some ⟨w.heap.size, 0, none⟩)) _ _ zpt zbm ⟨_, rfl, Blk.new_ rfl rfl, Nat.le_refl _, by simp⟩
 refine zql ?_
 refine chn_end (fun wz lo hi hbz hd hR => ?_)
 obtain ⟨A1, d1, rfl, o1⟩ : ClnF intE s.refs s.refs.length vwt3 (lo 3) (hi 3) wz := hd 3 _ _ rfl rfl
 obtain ⟨A2, d2, rfl, o2⟩ : ClnF boolE s.busy s.busy.length vwt7 (lo 7) (hi 7) wz := hd 7 _ _ rfl rfl
 obtain ⟨G, rfl, kG, hlo, hhi⟩ : VarN 25 [.slice none 0 0, .slice none 0 0] vwt9 (lo 9) (hi 9) wz := hd 9 _ _ rfl rfl
 have r2 := (hR.2 3 _ rfl).1
 have r5 := (hR.2 7 _ rfl).1
 have r9 := (hR.2 9 _ rfl).1
 have zX1 : w.heap.size + 2 ≤ W0.heap.size := Nat.le_trans (by rw [hXs]; exact Nat.le_refl _) hb0.size
 have BZ : Below w.heap.size w wz := BX.trans ((hb0.trans (hbz.mono hb0.size)).mono BX.size)
 have kTz := kT0.below_ hbz kT0.lt
 have zGl : W0.heap.size ≤ G := by omega
 have zG := kG.lt
 clear hd hR p0 p1
 have y0 := zc kG 0
 have y1 := zc kG 1
 obtain ⟨yf0, yf1, -⟩ := zf kG
 refine late_one (by simp only [zy5, zy6, zy7]; rfl) (fun K Q' hK => ?_)
 go_simp
 refine hK.out _ ?_
 clear hK K Q'
 obtain ⟨V, hV⟩ : ∃ V, (wz.setCell ⟨G, 0, none⟩ (.slice A1 s.refs.length d1)).setCell ⟨G, 1, none⟩ (.slice A2 s.busy.length d2) = V := ⟨_, rfl⟩
 have kV : Blk V G 25 #[.slice A1 s.refs.length d1, .slice A2 s.busy.length d2] := by rw [← hV]; exact (kG.set_ 0 _).set_ 1 _
 have kTV : Blk V (w.heap.size + 1) 25 #[.slice none 0 0, .slice none 0 0] := by rw [← hV]; exact (kTz.far_ (by show w.heap.size + 1 ≠ G; omega) _).far_ (by show w.heap.size + 1 ≠ G; omega) _
 have BV : Below w.heap.size w V := by rw [← hV]; exact (BZ.setCell (p := ⟨G, 0, none⟩) (by show w.heap.size ≤ G; omega) _).setCell (p := ⟨G, 1, none⟩) (by show w.heap.size ≤ G; omega) _
 have o1V : OwnE intE V W0.heap.size A1 d1 s.refs := by rw [← hV]; exact ((o1.base_ r2).farB kG (by decide) 0 _).farB (kG.set_ 0 _) (by decide) 1 _
 have o2V : OwnE boolE V W0.heap.size A2 d2 s.busy := by rw [← hV]; exact ((o2.base_ r5).farB kG (by decide) 0 _).farB (kG.set_ 0 _) (by decide) 1 _
 rw [hV]
 clear hV y0 y1 yf0 yf1 o1 o2
 have w1R : OwnR intE V W0.heap.size (.slice A1 s.refs.length d1) s.refs := o1V.own.resolve_left (fun e => by rw [e] at hk; simp at hk)
 have w2R : OwnR boolE V W0.heap.size (.slice A2 s.busy.length d2) s.busy := o2V.own.resolve_left (fun e => by have h := HBL.out; rw [e] at h; simp at h; omega)
 obtain ⟨g1, rfl, hg1, hl1⟩ := w1R.at0 (by omega)
 obtain ⟨g2, rfl, hg2, hl2⟩ := w2R.at0 (by have := HBL.out; omega)
 obtain ⟨x1, hx1⟩ : ∃ x, s.refs[k]? = some x := ⟨_, List.getElem?_eq_getElem hk⟩
 obtain ⟨x2, hx2⟩ : ∃ x, s.busy[k]? = some x := ⟨_, List.getElem?_eq_getElem (by have := HBL.out; omega)⟩
 obtain ⟨c1, f1, _⟩ := OwnR.cell1 (E := intE) rfl w1R hx1 (v := .int .i64 x1) rfl
 have i1 : (k : Int) < s.refs.length := by omega
 have i2 : (k : Int) < s.busy.length := by have := HBL.out; omega
 have n12 : g1 ≠ g2 := by
  obtain ⟨_, k1⟩ := w1R.blk0 hk
  obtain ⟨_, k2⟩ := w2R.blk0 (k := k) (by have := HBL.out; omega)
  exact k1.ne_ k2 (by decide)
 have n1G : g1 ≠ G := by
  obtain ⟨_, k1⟩ := w1R.blk0 hk
  exact k1.ne_ kV (by decide)
 have n2G : g2 ≠ G := by
  obtain ⟨_, k2⟩ := w2R.blk0 (k := k) (by have := HBL.out; omega)
  exact k2.ne_ kV (by decide)
 have zV := kV.lt
 have u0 := zc kV 0
 have u1 := zc kV 1
 go_upto_region 3 with fail
 obtain ⟨V2, hV2⟩ : ∃ W, V.setCell ⟨g1, k, none⟩ (.int .i64 r) = W := ⟨_, rfl⟩
 have kV2 : Blk V2 G 25 #[.slice (some ⟨g1, 0, none⟩) s.refs.length d1, .slice (some ⟨g2, 0, none⟩) s.busy.length d2] := by rw [← hV2]; exact kV.far_ (by show G ≠ g1; exact fun e => n1G e.symm) _
 have kTV2 : Blk V2 (w.heap.size + 1) 25 #[.slice none 0 0, .slice none 0 0] := by rw [← hV2]; exact kTV.far_ (by show w.heap.size + 1 ≠ g1; omega) _
 have BV2 : Below w.heap.size w V2 := by rw [← hV2]; exact BV.setCell (p := ⟨g1, k, none⟩) (by show w.heap.size ≤ g1; omega) _
 have w1R2 : OwnR intE V2 W0.heap.size (.slice (some ⟨g1, 0, none⟩) s.refs.length d1) (s.refs.set k r) := by rw [← hV2]; exact OwnR.set1 (E := intE) rfl w1R hk r rfl
 have w2R2 : OwnR boolE V2 W0.heap.size (.slice (some ⟨g2, 0, none⟩) s.busy.length d2) s.busy := by rw [← hV2]; exact w2R.far' (p := ⟨g1, k, none⟩) (by show g2 ≠ g1; exact fun e => n12 e.symm) _
 rw [hV2]
 clear hV2 u0 u1 c1 f1
 obtain ⟨c2, f2, _⟩ := OwnR.cell1 (E := boolE) rfl w2R2 hx2 (v := .bool x2) rfl
 have zV2 := kV2.lt
 obtain ⟨u0, u1⟩ := zc2 kV2
 go_upto_region 4 with fail
 obtain ⟨V3, hV3⟩ : ∃ W, V2.setCell ⟨g2, k, none⟩ (.bool b) = W := ⟨_, rfl⟩
 have kV3 : Blk V3 G 25 #[.slice (some ⟨g1, 0, none⟩) s.refs.length d1, .slice (some ⟨g2, 0, none⟩) s.busy.length d2] := by rw [← hV3]; exact kV2.far_ (by show G ≠ g2; exact fun e => n2G e.symm) _
 have kTV3 : Blk V3 (w.heap.size + 1) 25 #[.slice none 0 0, .slice none 0 0] := by rw [← hV3]; exact kTV2.far_ (by show w.heap.size + 1 ≠ g2; omega) _
 have BV3 : Below w.heap.size w V3 := by rw [← hV3]; exact BV2.setCell (p := ⟨g2, k, none⟩) (by show w.heap.size ≤ g2; omega) _
 have w1R3 : OwnR intE V3 W0.heap.size (.slice (some ⟨g1, 0, none⟩) s.refs.length d1) (s.refs.set k r) := by rw [← hV3]; exact w1R2.far' (p := ⟨g2, k, none⟩) (by show g1 ≠ g2; exact n12) _
 have w2R3 : OwnR boolE V3 W0.heap.size (.slice (some ⟨g2, 0, none⟩) s.busy.length d2) (s.busy.set k b) := by rw [← hV3]; exact OwnR.set1 (E := boolE) rfl w2R2 (by have := HBL.out; omega) b rfl
 rw [hV3]
 clear hV3 u0 u1 c2 f2
 have zV3 := kV3.lt
 have zT3 := kTV3.lt
 obtain ⟨u0, u1⟩ := zc2 kV3
 obtain ⟨t0, t1⟩ := zc2 kTV3
 obtain ⟨tf0, tf1, -⟩ := zf kTV3
 go_wp2_with fail
 obtain ⟨W, hW⟩ : ∃ W, setN V3 (w.heap.size + 1) 0 [.slice (some ⟨g1, 0, none⟩) s.refs.length d1, .slice (some ⟨g2, 0, none⟩) s.busy.length d2] = W := ⟨_, rfl⟩
 have hWn : World.setCell (World.setCell V3 ⟨w.heap.size + 1, 0, none⟩ (.slice (some ⟨g1, 0, none⟩) s.refs.length d1)) ⟨w.heap.size + 1, 1, none⟩ (.slice (some ⟨g2, 0, none⟩) s.busy.length d2) = W := hW
 have kW := zsw hW kTV3
 have bW := zbw hW BV3 (by omega)
 have o1W : OwnE intE W (w.heap.size + 2) (some ⟨g1, 0, none⟩) d1 (s.refs.set k r) := by rw [← hW]; exact ((OwnE.of_own w1R3 (by simp)).base_ (by omega)).farN (by exact Nat.lt_succ_self _) _
 have o2W : OwnE boolE W (w.heap.size + 2) (some ⟨g2, 0, none⟩) d2 (s.busy.set k b) := by rw [← hW]; exact ((OwnE.of_own w2R3 (by simp)).base_ (by omega)).farN (by exact Nat.lt_succ_self _) _
 rw [hWn]
 clear hWn hW t0 t1 tf0 tf1 u0 u1
 refine bodyPost_ret (by simp [results, Tryz.results115, go_sem, zc2 kW] <;> rfl) rfl ?_
 exact ⟨_, d1, _, d2, by simp [stV, witT], o1W.base_ (by omega), o2W.base_ (by omega), bW⟩
theorem find_range {f : Nat → Bool} {n k : Nat} (hk : k < n) (h : ∀ j, j < k → f j = false) (hf : f k = true) : (List.range n).find? f = some k := by
 rw [List.find?_eq_some_iff_getElem]
 exact ⟨hf, k, by simpa using hk, by simp, fun j hj => by simp [h j hj]⟩
theorem rsFirst_any (A B : Option Addr) (c d : Nat) (s : Sts) (w : World) (ha : SR intE w A s.refs) (hb : SR boolE w B s.busy) (hok : OkT s) :
  Calls Tryz.prog 101 #[stV A c B d s] w (IntPost (firT s).1 (firT s).2 w) := by
 have hzz := chkT_zero hok
 obtain ⟨l1, l2⟩ := hok.len
 have hbl := hok.blen
 have HC := Lib.hid (fun W h => rsCheck_any A B c d s W h (by omega) (by omega) hzz)
 have HF := Lib.hid (fun k W h1 h2 hk => rsFree_any A B c d s k W h1 h2 hk hbl)
 have HR : Hid (firT s = match fstT s with | none => (0, 5) | some i => ((i : Int), 0)) := by show _ = _; unfold firT; rw [hzz]; rfl
 have HA := Lib.hid ha
 have HB := Lib.hid hb
 clear ha hb hzz hok hbl
 unfold stV at HC HF ⊢
 obtain ⟨X, hX⟩ : ∃ X, w.alloc (.cells #[.slice A s.refs.length c, .slice B s.busy.length d] 25) = X := ⟨_, rfl⟩
 have kX : Blk X w.heap.size 25 #[.slice A s.refs.length c, .slice B s.busy.length d] := by rw [← hX]; exact zbk
 have BX : Below w.heap.size w X := by rw [← hX]; exact zbl
 have zX := kX.lt
 obtain ⟨q0, q1⟩ := zc2 kX
 go_enter Tryz.func101, Tryz.ntmps101
 go_wp2_with fail
 (try rw [hX])
 clear hX
 refine (HC.out X (HA.out.ext BX)).mono ?_
 rintro e1 w1 ⟨rfl, hb1⟩
 have kX1 := kX.below_ hb1 zX
 have B1 := BX.trans (hb1.mono BX.size)
 have zX1 := kX1.lt
 clear q0 q1 hb1
 go_wp2_with fail
 go_loopw [6] (fun i wr => ∃ k : Nat, k ≤ s.refs.length ∧ i = .int .i64 k ∧ Hid (∀ j, j < k → freT s j = false) ∧ Below w1.heap.size w1 wr) (fun i _ => s.refs.length - (intOf i).toNat)
 case atStart => exact ⟨0, by omega, rfl, fun j hj => by omega, Below.refl _ _⟩
 case round =>
  obtain ⟨k, hk, rfl, HN, hbw⟩ := hrel
  have B2 := B1.trans (hbw.mono B1.size)
  have kX2 := kX1.below_ hbw zX1
  have zX2 := kX2.lt
  obtain ⟨q0, q1⟩ := zc2 kX2
  by_cases hlt : k < s.refs.length
  ·have i1 : (k : Int) < s.refs.length := by omega
   obtain ⟨f, hf⟩ : ∃ f, freT s k = f := ⟨_, rfl⟩
   have H2 := Lib.hid (HF.out k wr (HA.out.ext B2) (HB.out.ext B2) hlt)
   rw [hf] at H2
   have HFk := Lib.hid hf
   clear hf
   go_wp2_with fail
   refine H2.out.mono ?_
   rintro e2 w2 ⟨rfl, hb2⟩
   cases f with
   | true =>
    have HE : Hid (firT s = ((k : Int), 0)) := by show _ = _; rw [HR.out]; unfold fstT; rw [find_range hlt HN.out HFk.out]
    go_wp2_with fail
    refine bodyPost_ret (by simp [results, Tryz.results101, go_sem] <;> rfl) rfl ?_
    exact ⟨by rw [HE.out], B2.trans (hb2.mono B2.size)⟩
   | false =>
    have HN2 : Hid (∀ j, j < k + 1 → freT s j = false) := fun j hj => by
     by_cases e : j = k
     ·rw [e]; exact HFk.out
     ·exact HN.out j (by omega)
    go_wp2_with fail
    go_roundw
    case rel => exact ⟨k + 1, by omega, by go_num, HN2.out, hbw.trans (hb2.mono hbw.size)⟩
    case measure => simp [intOf]; omega
  ·have HE : Hid (firT s = (0, 5)) := by
    show _ = _
    rw [HR.out]
    unfold fstT
    rw [List.find?_eq_none.2 fun j hj => by rw [HN.out j (by have := List.mem_range.1 hj; omega)]; simp]
   go_wp2_with fail
   refine bodyPost_ret (by simp [results, Tryz.results101, go_sem] <;> rfl) rfl ?_
   exact ⟨by rw [HE.out], B2⟩
theorem rdSlot_any (A B : Option Addr) (c d n m : Nat) (room x : Int) (w : World) : Calls Tryz.prog 166 #[.agg #[.slice A n c, .slice B m d, .int .i64 room], .int .i64 x] w fun e w' => e = .returned (.bool (decide (0 ≤ x ∧ x < n))) ∧ Below w.heap.size w w' := by
 have HE : Hid (decide (0 ≤ x ∧ x < (n : Int)) = (decide (x ≥ 0) && decide (x < (n : Int)))) := by show _ = _; simp
 cases d1 : decide (x ≥ 0) with
 | true =>
  go_enter Tryz.func166, Tryz.ntmps166
  go_wp2_with fail
  go_ret
  exact ⟨by rw [HE.out, d1]; simp, zbl⟩
 | false =>
  go_enter Tryz.func166, Tryz.ntmps166
  go_wp2_with fail
  go_ret
  exact ⟨by rw [HE.out, d1]; simp, zbl⟩
theorem rdFrame_any (x : Int) (w : World) : Calls Tryz.prog 167 #[.int .i64 x] w fun e w' => e = .returned (.bool (decide (0 ≤ x ∧ x < 256))) ∧ w = w' := by
 have HE : Hid (decide (0 ≤ x ∧ x < 256) = (decide (x ≥ 0) && decide (x < 256))) := by show _ = _; simp
 cases d1 : decide (x ≥ 0) with
 | true =>
  go_enter Tryz.func167, Tryz.ntmps167
  go_wp2_with fail
  go_ret
  exact ⟨by rw [HE.out, d1]; simp, rfl⟩
 | false =>
  go_enter Tryz.func167, Tryz.ntmps167
  go_wp2_with fail
  go_ret
  exact ⟨by rw [HE.out, d1]; simp, rfl⟩
theorem hitD_succ {l : List Jb} {q : Nat} {y : Jb} {a b : Int} (h : l[q]? = some y) : hitD (l.take (q + 1)) a b = (hitD (l.take q) a b || decide (y.slot = a ∨ y.frame = b)) := by
 unfold hitD
 rw [List.take_add_one, h, List.any_append]
 simp
theorem hitD_mono {l : List Jb} {q k : Nat} {a b : Int} (hq : q ≤ k) (h : hitD (l.take q) a b = true) : hitD (l.take k) a b = true := by
 unfold hitD at *
 rw [List.any_eq_true] at *
 obtain ⟨y, hy, h⟩ := h
 exact ⟨y, (List.take_subset_take_left l hq) hy, h⟩
theorem rdCheck_any (A B : Option Addr) (c d : Nat) (k0 : Dsk) (w : World) (hb : SR jbE w B k0.jobs) (la : k0.cells.length ≤ 1000) (lb : k0.jobs.length ≤ 1000) {z : Int} {n0 : Nat} (h : chkD k0 = (z, n0)) :
  Calls Tryz.prog 132 #[dkV A c B d k0] w fun e w' => e = .returned (.tuple #[.int .i64 z, .int .i64 n0]) ∧ Below w.heap.size w w' := by
 obtain ⟨n, hn⟩ : ∃ n, k0.cells.length = n := ⟨_, rfl⟩
 obtain ⟨m, hm⟩ : ∃ m, k0.jobs.length = m := ⟨_, rfl⟩
 obtain ⟨room, hr⟩ : ∃ room, k0.room = room := ⟨_, rfl⟩
 unfold dkV
 unfold chkD at h
 rw [hn, hm, hr] at h ⊢
 have HB := Lib.hid hb
 have HN := Lib.hid hn
 have HM := Lib.hid hm
 rw [hn] at la
 rw [hm] at lb
 clear hb hn hm hr
 by_cases h1 : n < 1 ∨ 256 < n ∨ room < 1 ∨ 32 < room
 ·rw [if_pos h1] at h
  cases h
  rcases (by omega : n < 1 ∨ (1 ≤ n ∧ 256 < n) ∨ (1 ≤ n ∧ n ≤ 256 ∧ room < 1) ∨ (1 ≤ n ∧ n ≤ 256 ∧ 1 ≤ room ∧ 32 < room)) with h1 | h1 | h1 | h1
  ·have g1 : decide ((n : Int) < 1) = true := by simp; omega
   clear h1
   go_enter Tryz.func132, Tryz.ntmps132
   go_wp2_with fail
   refine bodyPost_ret (by simp [results, Tryz.results132, go_sem] <;> rfl) rfl ?_
   exact ⟨rfl, zbl⟩
  ·have g1 : decide ((n : Int) < 1) = false := by simp; omega
   have g2 : decide ((n : Int) > 256) = true := by simp; omega
   clear h1
   go_enter Tryz.func132, Tryz.ntmps132
   go_wp2_with fail
   refine bodyPost_ret (by simp [results, Tryz.results132, go_sem] <;> rfl) rfl ?_
   exact ⟨rfl, zbl⟩
  ·have g1 : decide ((n : Int) < 1) = false := by simp; omega
   have g2 : decide ((n : Int) > 256) = false := by simp; omega
   have g3 : decide (room < 1) = true := by simp; omega
   clear h1
   go_enter Tryz.func132, Tryz.ntmps132
   go_wp2_with fail
   refine bodyPost_ret (by simp [results, Tryz.results132, go_sem] <;> rfl) rfl ?_
   exact ⟨rfl, zbl⟩
  ·have g1 : decide ((n : Int) < 1) = false := by simp; omega
   have g2 : decide ((n : Int) > 256) = false := by simp; omega
   have g3 : decide (room < 1) = false := by simp; omega
   have g4 : decide (room > 32) = true := by simp; omega
   clear h1
   go_enter Tryz.func132, Tryz.ntmps132
   go_wp2_with fail
   refine bodyPost_ret (by simp [results, Tryz.results132, go_sem] <;> rfl) rfl ?_
   exact ⟨rfl, zbl⟩
 ·rw [if_neg h1] at h
  have g1 : decide ((n : Int) < 1) = false := by simp; omega
  have g2 : decide ((n : Int) > 256) = false := by simp; omega
  have g3 : decide (room < 1) = false := by simp; omega
  have g4 : decide (room > 32) = false := by simp; omega
  by_cases h2 : room < m
  ·rw [if_pos h2] at h
   cases h
   have g5 : decide ((m : Int) > room) = true := by simpa using h2
   go_enter Tryz.func132, Tryz.ntmps132
   go_wp2_with fail
   refine bodyPost_ret (by simp [results, Tryz.results132, go_sem] <;> rfl) rfl ?_
   exact ⟨rfl, zbl⟩
  ·rw [if_neg h2] at h
   have g5 : decide ((m : Int) > room) = false := by simp; omega
   have HH : Hid (chkDG k0 (k0.jobs.take 0) (k0.jobs.drop 0) = (z, n0)) := by show _ = _; simpa using h
   have hm32 : m ≤ 32 := by omega
   clear h h1 h2
   go_enter Tryz.func132, Tryz.ntmps132
   go_wp2_with fail
   obtain ⟨V, hV⟩ : ∃ V, w.alloc (.cells #[.slice A n c, .slice B m d, .int .i64 room] 31) = V := ⟨_, rfl⟩
   have kD : Blk V w.heap.size 31 #[.slice A n c, .slice B m d, .int .i64 room] := by rw [← hV]; exact zbk
   have BV : Below w.heap.size w V := by rw [← hV]; exact zbl
   have zD := kD.lt
   rw [hV]
   clear hV g1 g2 g3 g4 g5
   go_loopw [4] (fun i wr => ∃ k : Nat, k ≤ m ∧ i = .int .i64 k ∧ Hid (chkDG k0 (k0.jobs.take k) (k0.jobs.drop k) = (z, n0)) ∧ Below V.heap.size V wr) (fun i _ => m - (intOf i).toNat)
   case atStart => exact ⟨0, by omega, rfl, HH.out, Below.refl _ _⟩
   case round =>
    obtain ⟨k, hk, rfl, HR, hbw⟩ := hrel
    have b1 := zbt BV hbw
    have kD1 := kD.below_ hbw zD
    have zD1 := kD1.lt
    obtain ⟨q0, q1, q2⟩ := zc3 kD1
    by_cases hlt : k < m
    ·have i1 : (k : Int) < m := by omega
     obtain ⟨b, off, x, rfl, hbl, hx, hc⟩ := (HB.out.ext b1).at_ (k := k) (by rw [HM.out]; exact hlt)
     have hcc := HR.out
     rw [chkDG_at hx] at hcc
     have HC := Lib.hid hcc
     clear hx hcc HR HH
     obtain ⟨jw, js, jf, ⟨x0, x1, x2, x3, x4, x5, x6, x7⟩⟩ := x
     have e0 : wr.cell? ⟨b, off + k * 11, none⟩ = some (.bool jw) := hc 0 _ rfl
     have e1 : wr.cell? ⟨b, off + k * 11 + 1, none⟩ = some (.int .i64 js) := hc 1 _ rfl
     have e2 : wr.cell? ⟨b, off + k * 11 + 2, none⟩ = some (.int .i64 jf) := hc 2 _ rfl
     have e3 : wr.cell? ⟨b, off + k * 11 + 3, none⟩ = some (.int .u64 x0) := hc 3 _ rfl
     have e4 : wr.cell? ⟨b, off + k * 11 + 4, none⟩ = some (.int .u64 x1) := hc 4 _ rfl
     have e5 : wr.cell? ⟨b, off + k * 11 + 5, none⟩ = some (.int .u64 x2) := hc 5 _ rfl
     have e6 : wr.cell? ⟨b, off + k * 11 + 6, none⟩ = some (.int .u64 x3) := hc 6 _ rfl
     have e7 : wr.cell? ⟨b, off + k * 11 + 7, none⟩ = some (.int .u64 x4) := hc 7 _ rfl
     have e8 : wr.cell? ⟨b, off + k * 11 + 8, none⟩ = some (.int .u64 x5) := hc 8 _ rfl
     have e9 : wr.cell? ⟨b, off + k * 11 + 9, none⟩ = some (.int .u64 x6) := hc 9 _ rfl
     have e10 : wr.cell? ⟨b, off + k * 11 + 10, none⟩ = some (.int .u64 x7) := hc 10 _ rfl
     go_upto_region 9 with fail
     obtain ⟨V6, hV6⟩ : ∃ V6, wr.alloc (.cells (zkj jw js jf x0 x1 x2 x3 x4 x5 x6 x7).toArray 115) = V6 := ⟨_, rfl⟩
     have kJ := za hV6
     have B6 := zab hV6
     rw [hV6]
     have kD6 := kD1.below_ B6 zD1
     have b6 := zbt hbw B6
     have zJ := kJ.lt
     have zD6 := kD6.lt
     clear hV6 hc e0 e1 e2 e3 e4 e5 e6 e7 e8 e9 e10 q0 q1 q2
     obtain ⟨q0, q1, q2⟩ := zc3 kD6
     obtain ⟨-, j1, j2, -⟩ := zc11 kJ
     go_wp2_with fail
     refine (rdSlot_any A (some ⟨b, off, none⟩) c d n m room js V6).mono ?_
     rintro e1 w1 ⟨rfl, hb1⟩
     have kD7 := kD6.below_ hb1 zD6
     have kJ7 := kJ.below_ hb1 zJ
     have b7 := zbt b6 hb1
     have zJ7 := kJ7.lt
     have zD7 := kD7.lt
     have zrw : wr.heap.size ≤ w1.heap.size := Nat.le_of_lt zJ7
     have b7r := zbt B6 hb1
     clear hb1 q0 q1 q2 j1 j2
     obtain ⟨j0, j1, j2, j3, j4, j5, j6, j7, j8, j9, j10⟩ := zc11 kJ7
     obtain ⟨q0, q1, q2⟩ := zc3 kD7
     cases d1 : decide (0 ≤ js ∧ js < (n : Int)) with
     | false =>
      have hcc := HC.out
      rw [show inD k0 js jf = false from by unfold inD; rw [HN.out]; have := of_decide_eq_false d1; exact decide_eq_false (by omega)] at hcc
      simp only [Bool.not_false, if_true, Prod.mk.injEq] at hcc
      obtain ⟨rfl, rfl⟩ := hcc
      go_wp2_with fail
      refine bodyPost_ret (by simp [results, Tryz.results132, go_sem] <;> rfl) rfl ?_
      exact ⟨rfl, BV.trans (b7.mono BV.size)⟩
     | true =>
      cases d2 : decide (0 ≤ jf ∧ jf < 256) with
      | false =>
       have hcc := HC.out
       rw [show inD k0 js jf = false from by unfold inD; rw [HN.out]; have := of_decide_eq_false d2; exact decide_eq_false (by omega)] at hcc
       simp only [Bool.not_false, if_true, Prod.mk.injEq] at hcc
       obtain ⟨rfl, rfl⟩ := hcc
       go_wp2_with (go_at_call 167; refine (rdFrame_any jf _).mono ?_; rintro e w' ⟨rfl, rfl⟩; rw [d2])
       refine bodyPost_ret (by simp [results, Tryz.results132, go_sem] <;> rfl) rfl ?_
       exact ⟨rfl, BV.trans (b7.mono BV.size)⟩
      | true =>
       have hcc := HC.out
       rw [show inD k0 js jf = true from by unfold inD; rw [HN.out]; have := of_decide_eq_true d1; have := of_decide_eq_true d2; exact decide_eq_true (by omega)] at hcc
       simp only [Bool.not_true, Bool.false_eq_true, if_false] at hcc
       have HC2 := Lib.hid hcc
       clear hcc HC
       go_wp2_with (go_at_call 167; refine (rdFrame_any jf _).mono ?_; rintro e w' ⟨rfl, rfl⟩; rw [d2])
       clear d1 d2 j0 j1 j2 j3 j4 j5 j6 j7 j8 j9 j10 q0 q1 q2 i1
       obtain ⟨wo, rfl⟩ : ∃ wo, wo = wr := ⟨_, rfl⟩
       go_loopw [6] (fun i wq => ∃ q : Nat, q ≤ k ∧ i = .int .i64 q ∧ Hid (hitD (k0.jobs.take q) js jf = false) ∧ Below w1.heap.size w1 wq) (fun i _ => k - (intOf i).toNat)
       case atStart => exact ⟨0, by omega, rfl, rfl, Below.refl _ _⟩
       case round =>
        obtain ⟨q, hq, rfl, HNO, hbq⟩ := hrel
        have b8 := zbt b7 hbq
        have kD8 := kD7.below_ hbq zD7
        have kJ8 := kJ7.below_ hbq zJ7
        have zD8 := kD8.lt
        have zJ8 := kJ8.lt
        obtain ⟨q0, q1, q2⟩ := zc3 kD8
        obtain ⟨j0, j1, j2, j3, j4, j5, j6, j7, j8, j9, j10⟩ := zc11 kJ8
        by_cases hql : q < k
        ·obtain ⟨b2, off2, y, hA2, hbl2, hy, hc2⟩ := (HB.out.ext (BV.trans (b8.mono BV.size))).at_ (k := q) (by rw [HM.out]; omega)
         injection hA2 with hA2
         injection hA2 with h3 h4
         subst h3 h4
         obtain ⟨yw, ys, yf, yd⟩ := y
         have e1 : wr.cell? ⟨b, off + q * 11 + 1, none⟩ = some (.int .i64 ys) := hc2 1 _ rfl
         have e2 : wr.cell? ⟨b, off + q * 11 + 2, none⟩ = some (.int .i64 yf) := hc2 2 _ rfl
         have HS := Lib.hid (hitD_succ (a := js) (b := jf) hy)
         have i2 : (q : Int) < m := by omega
         have i3 : (q : Int) < k := by omega
         have HHIT : Hid (hitD (k0.jobs.take (q + 1)) js jf = true → (z, n0) = ((10 : Int), k)) := fun h => by
          have := HC2.out
          rw [hitD_mono (by omega) h, if_pos rfl] at this
          exact this.symm
         clear hc2 hy
         by_cases s1 : ys = js
         ·have h := HHIT.out (by rw [HS.out, decide_eq_true (.inl s1), Bool.or_true])
          obtain ⟨rfl, rfl⟩ := Prod.mk.inj h
          have s1b : (ys == js) = true := by simpa using s1
          clear s1 h HHIT HC2
          go_wp2_with fail
          go_quiet (fail)
          go_wp2_with fail
          refine bodyPost_ret (by simp [results, Tryz.results132, go_sem] <;> rfl) rfl ?_
          exact ⟨rfl, BV.trans (Below.mono (show Below V.heap.size V _ from zbl) BV.size)⟩
         ·have s1b : (ys == js) = false := by simpa using s1
          by_cases s2 : yf = jf
          ·have h := HHIT.out (by rw [HS.out, decide_eq_true (.inr s2), Bool.or_true])
           obtain ⟨rfl, rfl⟩ := Prod.mk.inj h
           have s2b : (yf == jf) = true := by simpa using s2
           clear s1 s2 h HHIT HC2
           go_wp2_with fail
           go_quiet (fail)
           go_wp2_with fail
           refine bodyPost_ret (by simp [results, Tryz.results132, go_sem] <;> rfl) rfl ?_
           exact ⟨rfl, BV.trans (Below.mono (show Below V.heap.size V _ from zbl) BV.size)⟩
          ·have s2b : (yf == jf) = false := by simpa using s2
           have HN2 : Hid (hitD (k0.jobs.take (q + 1)) js jf = false) := by
            show _ = _
            rw [HS.out, HNO.out, decide_eq_false (fun h => h.elim s1 s2)]
            rfl
           clear s1 s2
           go_wp2_with fail
           go_quiet (fail)
           go_wp2_with fail
           go_roundw
           case rel => exact ⟨q + 1, by omega, by go_num, HN2.out, zbl⟩
           case measure => simp [intOf]; omega
        ·obtain rfl : q = k := by omega
         have hcc := HC2.out
         rw [HNO.out] at hcc
         simp only [Bool.false_eq_true, if_false] at hcc
         have i3 : ¬ (q : Int) < q := by omega
         cases jw with
         | true =>
          simp only [Bool.not_true, Bool.false_and, Bool.false_eq_true, if_false] at hcc
          have HNX := Lib.hid hcc
          clear hcc
          go_wp2_with fail
          go_roundw
          case rel => exact ⟨q + 1, by omega, by go_num, HNX.out, b8⟩
          case measure => simp [intOf]; omega
         | false =>
          have hq : ∀ W : World, (Op.equalIn 10000 38 (.agg (zkk x0 x1 x2 x3 x4 x5 x6 x7).toArray) (.agg (zkk 0 0 0 0 0 0 0 0).toArray)).run Tryz.prog W = .ok (decide ((⟨x0, x1, x2, x3, x4, x5, x6, x7⟩ : Ct) = .zero)) W := fun W => eq_ct W ⟨x0, x1, x2, x3, x4, x5, x6, x7⟩ .zero
          cases hz : decide ((⟨x0, x1, x2, x3, x4, x5, x6, x7⟩ : Ct) = .zero) with
          | false =>
           rw [hz] at hq hcc
           simp only [Bool.not_false, Bool.and_self, if_true, Prod.mk.injEq] at hcc
           obtain ⟨rfl, rfl⟩ := hcc
           clear hz
           go_wp2_with fail
           refine bodyPost_ret (by simp [results, Tryz.results132, go_sem] <;> rfl) rfl ?_
           exact ⟨rfl, BV.trans (b8.mono BV.size)⟩
          | true =>
           rw [hz] at hq hcc
           simp only [Bool.not_true, Bool.and_false, Bool.false_eq_true, if_false] at hcc
           have HNX := Lib.hid hcc
           clear hz hcc
           go_wp2_with fail
           go_roundw
           case rel => exact ⟨q + 1, by omega, by go_num, HNX.out, b8⟩
           case measure => simp [intOf]; omega
    ·have hd : k0.jobs.drop k = [] := List.drop_of_length_le (by rw [HM.out]; omega)
     have hcc := HR.out
     rw [hd, chkDG] at hcc
     cases hcc
     clear HR HH
     go_wp2_with fail
     refine bodyPost_ret (by simp [results, Tryz.results132, go_sem] <;> rfl) rfl ?_
     exact ⟨rfl, b1⟩
theorem rpSized_any (n : Int) (w : World) {b : Bool} (h : decide (1 ≤ n ∧ n ≤ 32) = b) : Calls Tryz.prog 136 #[.int .i64 n] w fun e w' => e = .returned (.bool b) ∧ w = w' := by
 have HE : Hid (b = (decide (n ≥ 1) && decide (n ≤ 32))) := by show _ = _; rw [← h]; simp
 clear h
 cases d1 : decide (n ≥ 1) with
 | true =>
  go_enter Tryz.func136, Tryz.ntmps136
  go_wp2_with fail
  go_ret
  exact ⟨by rw [HE.out, d1]; simp, rfl⟩
 | false =>
  go_enter Tryz.func136, Tryz.ntmps136
  go_wp2_with fail
  go_ret
  exact ⟨by rw [HE.out, d1]; simp, rfl⟩
theorem rpCheck_any (A : Option Addr) (c : Nat) (p : Pol) (w : World) (ha : SR intE w A p.free) (la : p.free.length ≤ 1000) {z : Int} {n : Nat} (h : chkP p = (z, n)) :
  Calls Tryz.prog 133 #[poV A c p] w fun e w' => e = .returned (.tuple #[.int .i64 z, .int .i64 n]) ∧ Below w.heap.size w w' := by
 obtain ⟨size, l⟩ := p
 dsimp only at *
 have HA := Lib.hid ha.sl
 clear ha
 unfold poV
 dsimp only
 unfold chkP at h
 dsimp only at h
 by_cases h1 : size < 1 ∨ 32 < size
 ·rw [if_pos h1] at h
  cases h
  have g1 := fun W => rpSized_any size W (b := false) (by simp; omega)
  go_enter Tryz.func133, Tryz.ntmps133
  go_wp2_with (go_at_call 136; refine (g1 _).mono ?_; rintro e w' ⟨rfl, rfl⟩)
  refine bodyPost_ret (by simp [results, Tryz.results133, go_sem] <;> rfl) rfl ?_
  exact ⟨rfl, zbl⟩
 ·have g1 := fun W => rpSized_any size W (b := true) (by simp; omega)
  rw [if_neg h1] at h
  have HH : Hid (chkPG size (l.take 0) (l.drop 0) = (z, n)) := by show _ = _; simpa using h
  clear h h1
  go_enter Tryz.func133, Tryz.ntmps133
  go_wp2_with (go_at_call 136; refine (g1 _).mono ?_; rintro e w' ⟨rfl, rfl⟩)
  clear g1
  obtain ⟨V, hV⟩ : ∃ V, w.alloc (.cells #[.int .i64 size, .slice A l.length c] 33) = V := ⟨_, rfl⟩
  have BV : Below w.heap.size w V := by rw [← hV]; exact zbl
  have kV : Blk V w.heap.size 33 #[.int .i64 size, .slice A l.length c] := by rw [← hV]; exact zbk
  rw [hV]
  clear hV
  have hsz := BV.size
  have hlV := kV.lt
  go_loopw [4] (fun i wr => ∃ k : Nat, k ≤ l.length ∧ i = .int .i64 k ∧ Hid (chkPG size (l.take k) (l.drop k) = (z, n)) ∧ Below V.heap.size V wr) (fun i _ => l.length - (intOf i).toNat)
  case atStart => exact ⟨0, by omega, rfl, HH, Below.refl _ _⟩
  case round =>
   obtain ⟨k, hk, rfl, HR, hbw⟩ := hrel
   clear HH
   have p0 : wr.cell? ⟨w.heap.size, 0, none⟩ = some (.int .i64 size) := by simpa using (kV.below_ hbw hlV).cell_ 0
   have p1 : wr.cell? ⟨w.heap.size, 1, none⟩ = some (.slice A l.length c) := by simpa using (kV.below_ hbw hlV).cell_ 1
   have hlw : w.heap.size < wr.heap.size := Nat.lt_of_lt_of_le hlV hbw.size
   by_cases hlt : k < l.length
   ·have HS : Hid (Sl wr (.int .i64) A l) := (HA.out.ext BV).ext hbw
    obtain ⟨b, off, x, rfl, hbl, hx, q0⟩ := HS.out.at_ hlt
    have i1 : (k : Int) < l.length := by omega
    have hc := HR.out
    rw [chkPG_at hx] at hc
    by_cases e1 : x < 0
    ·rw [if_pos (.inl e1)] at hc
     cases hc
     clear HR
     have d1 : decide (x < 0) = true := by simpa using e1
     clear e1
     go_wp2
     go_quiet (fail)
     go_wp2
     refine bodyPost_ret (by simp [results, Tryz.results133, go_sem] <;> rfl) rfl ?_
     exact ⟨rfl, zbl⟩
    ·by_cases e2 : size ≤ x
     ·rw [if_pos (.inr e2)] at hc
      cases hc
      clear HR
      have d1 : decide (x < 0) = false := by simpa using e1
      have d2 : decide (x ≥ size) = true := by simpa using e2
      clear e1 e2
      go_wp2
      go_quiet (fail)
      go_wp2
      refine bodyPost_ret (by simp [results, Tryz.results133, go_sem] <;> rfl) rfl ?_
      exact ⟨rfl, zbl⟩
     ·rw [if_neg (by omega)] at hc
      have HC := Lib.hid hc
      clear hc HR
      rcases Nat.eq_zero_or_pos k with hk0 | hk0
      ·have HD : Hid (chkPG size (l.take (k + 1)) (l.drop (k + 1)) = (z, n)) := by
        show _ = _
        have := HC.out
        rw [hk0] at this ⊢
        simpa using this
       have d1 : decide (x < 0) = false := by simpa using e1
       have d2 : decide (x ≥ size) = false := by simpa using e2
       have d3 : decide (0 < k) = false := decide_eq_false (by omega)
       have i5 : ¬ (0 : Int) < (k : Int) := by omega
       clear hk0 HC e1 e2
       go_wp2
       go_quiet (fail)
       go_wp2
       go_quiet (fail)
       go_wp2
       go_roundw
       case rel => exact ⟨k + 1, by omega, by go_num, HD.out, zbl⟩
       case measure => simp [intOf]; omega
      ·obtain ⟨m, rfl⟩ : ∃ m, k = m + 1 := ⟨k - 1, by omega⟩
       obtain ⟨y, hy⟩ : ∃ y, l[m]? = some y := ⟨_, List.getElem?_eq_getElem (by omega)⟩
       have q1 : wr.cell? ⟨b, off + m, none⟩ = some (.int .i64 y) := by
        obtain ⟨b', off', y', e, _, hy', q⟩ := HS.out.at_ (k := m) (by omega)
        injection e with e
        injection e with e3 e4
        subst e3 e4
        rw [hy] at hy'
        cases hy'
        exact q
       have hc := HC.out
       rw [take_lastP hy] at hc
       simp only [Option.any_some, decide_eq_true_eq] at hc
       have i2 : (0 : Int) < (m : Int) + 1 := by omega
       have i3 : (m : Int) + 1 - 1 = m := by omega
       have i4 : (m : Int) < l.length := by omega
       have d1 : decide (x < 0) = false := by simpa using e1
       have d2 : decide (x ≥ size) = false := by simpa using e2
       have d3 : decide ((m : Int) + 1 > 0) = true := decide_eq_true (by omega)
       clear e1 e2
       by_cases e3 : x ≤ y
       ·rw [if_pos e3] at hc
        cases hc
        have d4 : decide (x ≤ y) = true := by simpa using e3
        clear e3
        go_wp2
        go_quiet (fail)
        go_wp2
        go_quiet (fail)
        go_wp2
        refine bodyPost_ret (by simp [results, Tryz.results133, go_sem] <;> rfl) rfl ?_
        exact ⟨rfl, zbl⟩
       ·rw [if_neg e3] at hc
        have HD := Lib.hid hc
        have d4 : decide (x ≤ y) = false := by simpa using e3
        clear hc HC e3
        go_wp2
        go_quiet (fail)
        go_wp2
        go_quiet (fail)
        go_wp2
        go_roundw
        case rel => exact ⟨m + 1 + 1, by omega, by go_num, HD.out, zbl⟩
        case measure => simp [intOf]; omega
   ·have hd : l.drop k = [] := List.drop_of_length_le (by omega)
    have hc := HR.out
    rw [hd, chkPG] at hc
    cases hc
    clear HR
    go_wp2
    refine bodyPost_ret (by simp [results, Tryz.results133, go_sem] <;> rfl) rfl ?_
    exact ⟨rfl, zbl⟩
theorem rpFree_any (A : Option Addr) (c : Nat) (p : Pol) (d : Int) (w : World) (ha : SR intE w A p.free) (la : p.free.length ≤ 1000) :
  Calls Tryz.prog 144 #[poV A c p, .int .i64 d] w fun e w' => e = .returned (.bool (decide (d ∈ p.free))) ∧ Below w.heap.size w w' := by
 obtain ⟨size, l⟩ := p
 dsimp only at *
 have HA := Lib.hid ha.sl
 obtain ⟨R, hR⟩ : ∃ b, decide (d ∈ l) = b := ⟨_, rfl⟩
 rw [hR]
 have HR := Lib.hid hR
 clear ha hR
 unfold poV
 dsimp only
 go_enter Tryz.func144, Tryz.ntmps144
 go_wp2
 obtain ⟨V, hV⟩ : ∃ V, w.alloc (.cells #[.int .i64 size, .slice A l.length c] 33) = V := ⟨_, rfl⟩
 have BV : Below w.heap.size w V := by rw [← hV]; exact zbl
 have kV : Blk V w.heap.size 33 #[.int .i64 size, .slice A l.length c] := by rw [← hV]; exact zbk
 rw [hV]
 clear hV
 have hsz := BV.size
 have hlV := kV.lt
 go_loopw [5] (fun i wr => ∃ k : Nat, k ≤ l.length ∧ i = .int .i64 k ∧ Hid (∀ x ∈ l.take k, x ≠ d) ∧ Below V.heap.size V wr) (fun i _ => l.length - (intOf i).toNat)
 case atStart => exact ⟨0, by omega, rfl, fun x hx => by simp at hx, Below.refl _ _⟩
 case round =>
  obtain ⟨k, hk, rfl, HN, hbw⟩ := hrel
  have p1 : wr.cell? ⟨w.heap.size, 1, none⟩ = some (.slice A l.length c) := by simpa using (kV.below_ hbw hlV).cell_ 1
  have hlw : w.heap.size < wr.heap.size := Nat.lt_of_lt_of_le hlV hbw.size
  by_cases hlt : k < l.length
  ·obtain ⟨b, off, x, rfl, hbl, hx, q0⟩ := ((HA.out.ext BV).ext hbw).at_ hlt
   have i1 : (k : Int) < l.length := by omega
   have HX := Lib.hid hx
   clear hx
   by_cases e : x = d
   ·have HE : Hid (R = true) := by show _ = _; rw [← HR.out, ← e]; exact decide_eq_true (List.mem_of_getElem? HX.out)
    have eb : (x == d) = true := by simpa using e
    clear e
    go_wp2
    go_ret
    exact ⟨ret_bool HE.out.symm, zbl⟩
   ·have eb : (x == d) = false := by simpa using e
    have HN2 : Hid (∀ y ∈ l.take (k + 1), y ≠ d) := by
     show ∀ y ∈ _, _
     rw [List.take_add_one, HX.out]
     intro y hy
     rcases List.mem_append.1 hy with hy | hy
     ·exact HN.out y hy
     ·simp at hy; rw [hy]; exact e
    clear e
    go_wp2
    go_roundw
    case rel => exact ⟨k + 1, by omega, by go_num, HN2.out, zbl⟩
    case measure => simp [intOf]; omega
  ·have HE : Hid (R = false) := by
    show _ = _
    rw [← HR.out]
    refine decide_eq_false fun h => ?_
    have := HN.out
    rw [List.take_of_length_le (by omega)] at this
    exact this d h rfl
   go_wp2
   go_ret
   exact ⟨ret_bool HE.out.symm, zbl⟩
theorem tknP_nat (l : List Int) (n : Nat) : tknP ⟨(n : Int), l⟩ = tkF l n := by rw [tknP_eq]; simp [tkF]
theorem rpTaken_any (A : Option Addr) (c : Nat) (p : Pol) (w : World) (hok : OkP p) (ha : SR intE w A p.free) :
  Calls Tryz.prog 134 #[poV A c p] w (TkPost (tknP p) w) := by
 have hzz := chkP_zero hok
 have hlen := hok.len
 obtain ⟨size, l⟩ := p
 obtain ⟨ok1, ok2, ok3⟩ := hok
 dsimp only at *
 unfold poV
 dsimp only
 obtain ⟨n, rfl⟩ : ∃ n : Nat, size = n := ⟨size.toNat, by omega⟩
 have HT : Hid (tknP ⟨(n : Int), l⟩ = tkF l n) := tknP_nat l n
 have HA := Lib.hid ha
 have HZ := Lib.hid hzz
 have n2 : n ≤ 32 := by omega
 clear ha hzz ok2 ok3
 obtain ⟨X, hX⟩ : ∃ X, w.alloc (.cells #[.int .i64 n, .slice A l.length c] 33) = X := ⟨_, rfl⟩
 have BX : Below w.heap.size w X := by rw [← hX]; exact zbl
 have kX : Blk X w.heap.size 33 #[.int .i64 n, .slice A l.length c] := by rw [← hX]; exact zbk
 obtain ⟨q0, q1⟩ := zc2 kX
 have zX := kX.lt
 go_enter Tryz.func134, Tryz.ntmps134
 go_wp2_with fail
 (try rw [hX])
 clear hX
 refine (rpCheck_any A c ⟨(n : Int), l⟩ X (HA.out.ext BX) (by dsimp only; omega) HZ.out).mono ?_
 rintro e1 w1 ⟨rfl, hb1⟩
 have kP : Blk w1 w.heap.size 33 #[.int .i64 n, .slice A l.length c] := kX.below_ hb1 zX
 have B1 := zbt BX hb1
 have zP := kP.lt
 clear q0 q1 hb1
 go_wp2_with fail
 go_loopw [6, 7] (fun v f w5 => ∃ (k : Nat) (A' : Option Addr) (c' L : Nat) (zs : List Int), k ≤ n ∧ f = .int .i64 k ∧ v = .slice A' L c' ∧ Hid (zs = tkF l k) ∧ Hid (L = zs.length) ∧ Hid (CanR intE w5 w1.heap.size A' c' zs) ∧ Below w1.heap.size w1 w5) (fun _ f _ => n - (intOf f).toNat)
 case atStart => exact ⟨0, none, 0, 0, [], by omega, rfl, rfl, rfl, rfl, .inl ⟨rfl, SR.nil⟩, Below.refl _ _⟩
 case round =>
  obtain ⟨k, A', c', L, zs, hk, rfl, rfl, HZS, HLL, HCAN, hb5⟩ := hrel
  have kQ5 := kP.below_ hb5 zP
  have zQ5 := kQ5.lt
  have b5w := zbt B1 hb5
  have hsz := hb5.size
  obtain ⟨q0, q1⟩ := zc2 kQ5
  by_cases hlt : k < n
  ·have i1 : (k : Int) < n := by omega
   have hf := rpFree_any A c ⟨(n : Int), l⟩ k wr (HA.out.ext b5w) (by dsimp only; omega)
   obtain ⟨fr, hfr⟩ : ∃ b, decide ((k : Int) ∈ l) = b := ⟨_, rfl⟩
   have HS : Hid (tkF l (k + 1) = zs ++ (if fr = true then [] else [(k : Int)])) := by
    show _ = _
    rw [HZS.out, ← hfr]
    unfold tkF
    rw [rngI_succ, List.filter_append]
    by_cases e : (k : Int) ∈ l <;> simp [e]
   dsimp only at hf
   rw [hfr] at hf
   have HF := Lib.hid hf
   clear hf hfr
   have HZL : Hid (zs.length ≤ 1000) := by show _ ≤ _; have := tkF_len l k; rw [← HZS.out] at this; omega
   go_wp2_with fail
   refine HF.out.mono ?_
   rintro e6 w6 ⟨rfl, hb6⟩
   have hsz6 := hb6.size
   cases fr with
   | true =>
    go_wp2_with fail
    go_roundw
    case rel => exact ⟨k + 1, A', c', L, zs, by omega, by go_num, rfl, by show _ = _; rw [HS.out]; simp, HLL.out, HCAN.out.ext hb6, hb5.trans (hb6.mono (by omega))⟩
    case measure => simp [intOf]; omega
   | false =>
    have H1 : Hid ((zs ++ [(k : Int)]).length = L + 1) := by show _ = _; simp [HLL.out]
    go_wp2_with (at_builtin; refine wpList_appR intE rfl (.tmp 26) (.tmp 28) _ rfl rfl _ w1.heap.size (by simp; omega) A' c' L zs HLL.out ((HCAN.out.ext hb6).ext ?_) (some ⟨w6.heap.size, 0, none⟩) 1 1 [(k : Int)] rfl (SR.of_blk (E := intE) (l := [(k : Int)]) (t := 3) (Blk.new_ (by simp) rfl)) (by have := HZL.out; simp; omega) rfl rfl ?_; (exact (Below.refl _ w6).alloc (Nat.le_refl _) _); rw [H1.out]; intro A5 c5 w7 hO7 hb7 hm7)
    have H7 : CanR intE w7 w1.heap.size A5 c5 (zs ++ [(k : Int)]) := hO7
    have hb67 : Below w1.heap.size w1 w7 := (hb5.trans (hb6.mono (by omega))).trans (Below.trans ((Below.refl _ w6).alloc (by omega) _) hb7)
    go_roundw
    case rel => exact ⟨k + 1, A5, c5, L + 1, zs ++ [(k : Int)], by omega, by go_num, rfl, by show _ = _; rw [HS.out]; simp, H1.out.symm, H7, hb67⟩
    case measure => simp [intOf]; omega
  ·obtain rfl : k = n := by omega
   have HE : Hid (tkF l k = zs) := by show _ = _; rw [HZS.out]
   go_wp2_with fail
   refine bodyPost_ret (by simp [results, Tryz.results134, go_sem] <;> rfl) rfl ?_
   unfold TkPost
   rw [HT.out, HE.out]
   exact ⟨A', c', by rw [HLL.out], CanR.base_ HCAN.out (by have := B1.size; omega), b5w⟩
theorem rpTake_any (A : Option Addr) (c : Nat) (p : Pol) (w : World) (ha : CR intE w A c p.free) (hok : OkP p) {d : Int} {l : List Int} (hfr : p.free = d :: l) :
  Calls Tryz.prog 119 #[poV A c p] w (TakePost (⟨p.size, l⟩, d, 0) w) := by
 have hzz := chkP_zero hok
 have hlen := hok.len
 obtain ⟨size, fr⟩ := p
 dsimp only at *
 subst hfr
 have hsf := ha.suf 1 (by simp)
 have hcl : l.length + 1 ≤ c := ha.2
 obtain ⟨A1, hA1⟩ : ∃ A1, (if c = 1 then A else A.map (fun a => a.add (1 * 1))) = A1 := ⟨_, rfl⟩
 have hs : ∀ W, (Instr.slice 22 (.slice A (l.length + 1) c) (some (.int .i64 1)) none none).run Tryz.prog W = .ok (.slice A1 l.length (c - 1)) W := fun W => by
  rw [← hA1]
  exact run_sufR intE A c (l.length + 1) 1 (by omega) (by omega) W
 have hs1 : SR intE w A1 l := by rw [← hA1]; exact hsf.1
 obtain ⟨b, off, x, rfl, hbl, hx, hc⟩ := ha.1.at_ (k := 0) (by simp)
 obtain rfl : d = x := by simpa using hx
 have hq : w.cell? ⟨b, off, none⟩ = some (.int .i64 d) := by simpa using hc 0 _ rfl
 have hll : l.length ≤ 31 := by simp at hlen; omega
 have HC := Lib.hid (rpCheck_any (some ⟨b, off, none⟩) c ⟨size, d :: l⟩)
 have HA := Lib.hid ha
 have HZ := Lib.hid hzz
 clear hx hc hsf hA1 hok hzz ha hlen
 show Calls _ _ #[.agg #[.int .i64 size, .slice (some ⟨b, off, none⟩) (l.length + 1) c]] _ _
 obtain ⟨X, hX⟩ : ∃ X, (w.alloc (.cells #[.int .i64 size, .slice (some ⟨b, off, none⟩) (l.length + 1) c] 33)).alloc (.cells #[.int .i64 0, .slice none 0 0] 33) = X := ⟨_, rfl⟩
 have kX := za1 hX
 have kR := za2 hX
 have BX : Below w.heap.size w X := by rw [← hX]; exact zbl
 have zX := kX.lt
 obtain ⟨q0, q1⟩ := zc2 kX
 go_enter Tryz.func119, Tryz.ntmps119
 go_wp2_with fail
 (try rw [hX])
 clear hX
 refine (HC.out X (HA.out.1.ext BX) (by simp; omega) HZ.out).mono ?_
 rintro e1 w1 ⟨rfl, hb1⟩
 have B1 := zbt BX hb1
 have kX1 := kX.below_ hb1 zX
 have kR1 := kR.below_ hb1 kR.lt
 have zq := kX1.lt
 have zr := kR1.lt
 have HS : Hid (SR intE w1 A1 l) := hs1.ext B1
 have q2 := cell_keep B1 hq hbl
 have zb : b < w1.heap.size := Nat.lt_of_lt_of_le hbl B1.size
 have hn0 : ((l.length : Int) + 1 == 0) = false := by simp; omega
 clear q0 q1 hb1 hs1 hq HC
 obtain ⟨q0, q1⟩ := zc2 kX1
 go_upto_region 6 with fail
 have i1 : (0 : Int) < (l.length : Int) + 1 := by omega
 refine wp_region_held_drew (S := (fun (wx : World) => wx.cell? ⟨w.heap.size, 0, none⟩ = some (.int .i64 size) ∧ wx.cell? ⟨w.heap.size, 1, none⟩ = some (.slice (some ⟨b, off, none⟩) (l.length + 1) c) ∧ wx.cell? ⟨b, off, none⟩ = some (.int .i64 d))) (by kernel_rfl) ?_ (fun hHeld => ?_)
 ·exact ⟨q0, q1, q2⟩
 refine zht 0 ?_
 refine zht 1 ?_
 refine zht 3 ?_
 refine zht 4 ?_
 refine zhV 5 (.slice A1 l.length (c - 1)) (fun w hSw => ?_) ?_
 ·(try dsimp only at hSw)
  go_simp
  first | done | with_reducible rfl
 refine zht 8 ?_
 refine zht 9 ?_
 refine zht 10 ?_
 refine zht 11 ?_
 refine zhr 2 (fun K hK => ?_)
 go_simp
 obtain ⟨w4, hw4⟩ : ∃ w4, w4 = (w1.alloc (.cells #[] 3)).drew := ⟨_, rfl⟩
 have B4 : Below w1.heap.size w1 w4 := by rw [hw4]; exact ((Below.refl _ _).alloc (Nat.le_refl _) _).drew
 rw [← hw4]
 clear hw4
 refine hK.out _ _ (by first | exact ⟨cell_keep B5 q0 zq, cell_keep B5 q1 zq, cell_keep B5 q2 zb⟩ | exact ⟨cell_keep B4 q0 zq, cell_keep B4 q1 zq, cell_keep B4 q2 zb⟩ | exact ⟨by simpa using ((kX5.far_ (by simp) _).far_ (by simp) _).cell_ 0, by simpa using ((kX5.far_ (by simp) _).far_ (by simp) _).cell_ 1, by rw [World.cell?_setCell_other _ _ _ _ (by intro e; injection e with e1; omega), World.cell?_setCell_other _ _ _ _ (by intro e; injection e with e1; omega)]; exact cell_keep B5 q2 zb⟩) fun hHeld => ?_
 clear hK K
 (try simp only [Act.put, zy0, zy1, zy2])
 refine zhr 6 (fun K hK => ?_)
 refine step_appF intE rfl (.tmp 23) (.tmp 26) _ rfl rfl w4 _ A1 (c - 1) l.length l rfl (HS.out.ext B4) (by omega) rfl rfl ?_
 intro A2 c2 w5 hO5 hb5
 have B5 := zbt B4 hb5
 have kX5 := kX1.below_ B5 zq
 have kR5 := kR1.below_ B5 zr
 have zr5 := kR5.lt
 obtain ⟨y0, y1⟩ := zc2 kR5
 obtain ⟨yf0, yf1, -⟩ := zf kR5
 refine hK.out _ _ (by first | exact ⟨cell_keep B5 q0 zq, cell_keep B5 q1 zq, cell_keep B5 q2 zb⟩ | exact ⟨cell_keep B4 q0 zq, cell_keep B4 q1 zq, cell_keep B4 q2 zb⟩ | exact ⟨by simpa using ((kX5.far_ (by simp) _).far_ (by simp) _).cell_ 0, by simpa using ((kX5.far_ (by simp) _).far_ (by simp) _).cell_ 1, by rw [World.cell?_setCell_other _ _ _ _ (by intro e; injection e with e1; omega), World.cell?_setCell_other _ _ _ _ (by intro e; injection e with e1; omega)]; exact cell_keep B5 q2 zb⟩) fun hHeld => ?_
 clear hK K
 (try simp only [Act.put, zy0, zy1, zy2])
 refine zht 7 ?_
 refine zhr 12 (fun K hK => ?_)
 go_simp
 refine hK.out _ _ (by first | exact ⟨cell_keep B5 q0 zq, cell_keep B5 q1 zq, cell_keep B5 q2 zb⟩ | exact ⟨cell_keep B4 q0 zq, cell_keep B4 q1 zq, cell_keep B4 q2 zb⟩ | exact ⟨by simpa using ((kX5.far_ (by simp) _).far_ (by simp) _).cell_ 0, by simpa using ((kX5.far_ (by simp) _).far_ (by simp) _).cell_ 1, by rw [World.cell?_setCell_other _ _ _ _ (by intro e; injection e with e1; omega), World.cell?_setCell_other _ _ _ _ (by intro e; injection e with e1; omega)]; exact cell_keep B5 q2 zb⟩) fun hHeld => ?_
 clear hK K
 (try simp only [Act.put, zy0, zy1, zy2])
 refine zht 13 ?_
 refine zht 14 ?_
 refine wpAnyH_done (by kernel_rfl) ?_ _
 go_wp2_with fail
 have B15 := zbt B1 B5
 have z45 := B4.size
 obtain ⟨W, hW⟩ : ∃ W, setN w5 (w.heap.size + 1) 0 [.int .i64 size, .slice A2 l.length c2] = W := ⟨_, rfl⟩
 have hWn : World.setCell (World.setCell w5 ⟨w.heap.size + 1, 0, none⟩ (.int .i64 size)) ⟨w.heap.size + 1, 1, none⟩ (.slice A2 l.length c2) = W := hW
 have kW := zsw hW kR5
 have bW := zbw hW B15 (by omega)
 have oW : OwnE intE W (w.heap.size + 2) A2 c2 l := by rw [← hW]; exact (hO5.base_ (by omega)).farN (by exact Nat.lt_succ_self _) _
 rw [hWn]
 clear hWn hW y0 y1 yf0 yf1
 refine bodyPost_ret (by simp [results, Tryz.results119, go_sem, zc2 kW] <;> rfl) rfl ?_
 exact ⟨A2, c2, rfl, oW.base_ (by omega), bW⟩
end Go.Proofs.YthijbipidbjpfaaGreatDoor
