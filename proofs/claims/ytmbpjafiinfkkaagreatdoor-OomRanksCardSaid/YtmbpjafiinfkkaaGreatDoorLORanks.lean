/- OomRanks: the victim, and the next one. -/
import Derived.Test.YtmbpjafiinfkkaaGreatDoorOW8
import Derived.Test.YtmbpjafiinfkkaaGreatDoorOM3
import Derived.Test.YtmbpjafiinfkkaaGreatDoorOWC
import Derived.Deep.CutBlock
import Derived.Deep.DeepCutAuto
namespace Go.Proofs.YtmbpjafiinfkkaaGreatDoor
set_option linter.unusedSimpArgs false
set_option linter.unusedVariables false
open Go.RowKit Go.Maps
open Go.ChangeShapes Go.WideShapes Go.ChangeAt Go.Joins

/-- How many of the first i could be victims. -/
def cntC (l : List PV) (sp : List Int) (i : Nat) : Nat := ((List.range i).filterMap (candAt l sp)).length
theorem cntC_zero (l : List PV) (sp : List Int) : cntC l sp 0 = 0 := rfl
theorem cntC_next (l : List PV) (sp : List Int) (i : Nat) : cntC l sp (i + 1) = cntC l sp i + if (candAt l sp i).isSome then 1 else 0 := by
  unfold cntC
  rw [List.range_succ, List.filterMap_append, List.length_append]
  congr 1
  cases h : candAt l sp i <;> simp [h]
theorem cntC_all (l : List PV) (sp : List Int) : cntC l sp l.length = (rnkL l sp).length := by
  unfold rnkL
  rw [List.length_map, srtC_len]
  rfl
theorem cntC_le (l : List PV) (sp : List Int) (i : Nat) : cntC l sp i ≤ i := by
  unfold cntC
  exact Nat.le_trans (List.length_filterMap_le _ _) (by simp)
theorem candAt_no {l : List PV} {sp : List Int} {i : Nat} {p : PV} (hp : l[i]? = some p) (h : p.st = 0 ∨ ((i : Int) + 1) ∈ sp) : candAt l sp i = none := by
  unfold candAt
  rw [hp]
  rcases h with h | h <;> simp [h]
theorem candAt_yes {l : List PV} {sp : List Int} {i : Nat} {p : PV} (hp : l[i]? = some p) (h0 : p.st ≠ 0) (h1 : ((i : Int) + 1) ∉ sp) : (candAt l sp i).isSome = true := by
  unfold candAt
  rw [hp]
  simp [h0, h1]
theorem vic_of {l : List PV} {sp : List Int} (h : rnkE l sp = 0) : (∀ v t, rnkL l sp = v :: t → vicE l sp = 0 ∧ vicI l sp = v) ∧ (rnkL l sp = [] → vicE l sp = 6 ∧ vicI l sp = 0) := by
  unfold vicE vicI
  rw [if_pos h, if_pos h]
  exact ⟨fun v t e => by rw [e]; exact ⟨by simp, rfl⟩, fun e => by rw [e]; exact ⟨by simp, rfl⟩⟩

set_option maxHeartbeats 1000000 in
theorem v0_q (v n : Int) (w : World) (h : 1 ≤ v ∧ v ≤ n) : Calls Tryz.prog 38 #[.int .i64 v, .int .i64 n] w fun e w' => e = .returned (.int .i64 v) ∧ w = w' := by
  have h1 : ¬ v < 1 := by omega
  have h2 : ¬ n < v := by omega
  go_enter Tryz.func38, Tryz.ntmps38
  go_wp2
  refine bodyPost_ret (v := .int .i64 v) (by simp [results, Tryz.results38, go_sem]) rfl ?_
  exact ⟨rfl, rfl⟩
set_option maxRecDepth 100000 in
set_option maxHeartbeats 32000000 in
theorem oomRanks_walk (A : Option Addr) (c : Nat) (nums : List Int) (D : Option Addr) (d : Nat) (sps : List Int) (w : World) (hs : Sl w (.int .i64) A nums) (_hw0 : ∀ x ∈ nums, (Lit.int .i64 x).wf = true) (hl0 : nums.length ≤ maxLen) (hs1 : Sl w (.int .i64) D sps) (_hw1 : ∀ x ∈ sps, (Lit.int .i64 x).wf = true) (hl1 : sps.length ≤ maxLen) (hal : AL w) :
    Calls Tryz.prog 6 #[.slice A nums.length c, .slice D sps.length d] w fun e w' => e = .returned (.bool true) ∧ Below w.heap.size w w' := by
  have HAL := Lib.hid hal
  have hnl : nums.length ≤ 9223372036854775807 := by unfold maxLen at hl0; omega
  have hsl : sps.length ≤ 9223372036854775807 := by unfold maxLen at hl1; omega
  have HS := Lib.hid hs; have HS1 := Lib.hid hs1
  clear hal hs hs1 hl0 hl1
  go_enter Tryz.func6, Tryz.ntmps6
  go_wp2_with fail
  refine (oomKnown_walk _ HAL.out).mono ?_
  rintro e w1 ⟨rfl, hb1⟩
  go_wp2_with fail
  refine (made_any A c nums w1 (HAL.out.ext hb1) (HS.out.ext hb1) hnl).mono ?_
  rintro e w2 ⟨⟨B, db, l, rfl, hO, l1, l8, hpv⟩, hb2⟩
  obtain ⟨g, rfl, hg1, hg2⟩ : ∃ g, B = some ⟨g, 0, none⟩ ∧ w1.heap.size ≤ g ∧ g < w2.heap.size := by
    rcases hO.2 with ⟨h, _⟩ | ⟨g, cap, cur, h, h1, h2, _⟩
    · injection h with _ h
      omega
    · injection h with h _ _
      exact ⟨g, h, h1, (Array.getElem?_eq_some_iff.1 h2).1⟩
  have B2 : Below w.heap.size w w2 := hb1.trans (hb2.mono hb1.size)
  have z12 : w1.heap.size ≤ w2.heap.size := hb2.size
  have zw1 := hb1.size
  have HO := Lib.hid hO
  have HPV := Lib.hid hpv
  have HD : Hid (Sl w2 (.int .i64) D sps) := HS1.out.ext B2
  have HAL2 : Hid (AL w2) := HAL.out.ext B2
  have hl1' : ((l.length : Int)) ≤ 8 := by omega
  clear hO hpv hb1 hb2 HS HS1
  go_upto_block 0 with fail
  go_cut [7] (fun s wx => ∃ (A' : Option Addr) (c' : Nat) (zs : List Int), s = .slice A' zs.length c' ∧ zs.length ≤ 3 ∧ Hid (∀ z ∈ zs, 1 ≤ z ∧ z ≤ (l.length : Int)) ∧ Hid (OwnR intE wx w2.heap.size (.slice A' zs.length c') zs) ∧ Below w2.heap.size w2 wx)
  case first =>
    go_wp2_with fail
    go_loopw [8, 7] (fun i s wr => ∃ (k : Nat) (A' : Option Addr) (c' : Nat) (zs : List Int), k ≤ sps.length ∧ k ≤ 3 ∧ i = .int .i64 k ∧ s = .slice A' k c' ∧ Hid (zs.length = k) ∧ Hid (∀ z ∈ zs, 1 ≤ z ∧ z ≤ (l.length : Int)) ∧ Hid (OwnR intE wr w2.heap.size (.slice A' k c') zs) ∧ Below w2.heap.size w2 wr) (fun i _ _ => 3 - (intOf i).toNat)
    case atStart => exact ⟨0, none, 0, [], by omega, by omega, rfl, rfl, rfl, by show ∀ z ∈ _, _; simp, OwnR.nil, Below.refl _ _⟩
    case round =>
      obtain ⟨k, A', c', zs, hk, hk3, rfl, rfl, HL, HZ, HOz, hbr⟩ := hrel
      have zwr := hbr.size
      by_cases hlt : k < sps.length ∧ k < 3
      · obtain ⟨b, off, x, rfl, hbl, hx, hc⟩ := (HD.out.ext hbr).at_ hlt.1
        have i1 : (k : Int) < sps.length := by omega
        have i2 : (k : Int) < 3 := by omega
        have hO : OwnR intE wr w2.heap.size (.slice A' zs.length c') zs := by rw [HL.out]; exact HOz.out
        have HOO := Lib.hid hO
        have H2 : Hid (∀ z : Int, (zs ++ [z]).length = k + 1) := fun z => by rw [List.length_append, HL.out]; rfl
        clear hO HOz hx hlt
        go_wp2_with (first
          | (go_at_call 36; refine (mod_ex _ l.length _ l1 (by omega)).mono ?_; rintro e w3 ⟨q, hq, rfl, rfl⟩)
          | (at_builtin; refine wpList_ownR intE rfl (.tmp 33) (.tmp 42) _ rfl rfl _ w2.heap.size (by simp; omega) A' c' k zs HL.out.symm (HOO.out.ext (by repeat' (first | with_reducible exact Below.refl _ _ | with_reducible assumption | with_reducible apply Below.drew | with_reducible apply below_drewN | with_reducible apply Below.alloc | with_reducible apply Below.setCell | (with_reducible refine Below.trans ?_ (Below.mono (by assumption) ?_)) | (simp; done) | (simp; omega) | omega | with_reducible apply le_size_alloc | with_reducible apply le_size_drewN | with_reducible apply le_size_drew | with_reducible apply le_size_setCell | refine Nat.le_trans ?_ (Below.size (by assumption))))) (some ⟨wr.heap.size, 0, none⟩) 1 1 [1 + (q : Int)] rfl (SR.of_blk (E := intE) (l := [1 + (q : Int)]) (t := 3) (Blk.new_ (by simp) rfl)) (by simp) (by simp; have := HL.out; omega) rfl rfl ?_; intro A5 c5 w5 hO5 hb5 hg5; rw [H2.out] at hO5 ⊢))
        go_roundw
        case rel => exact ⟨k + 1, A5, c5, zs ++ [1 + (q : Int)], by omega, by omega, by go_num, rfl, H2.out _, by show ∀ z ∈ _, _; (intro z hz; rcases List.mem_append.1 hz with h | h; exact HZ.out z h; rw [List.mem_singleton.1 h]; omega), hO5, (by repeat' (first | with_reducible exact Below.refl _ _ | with_reducible assumption | with_reducible apply Below.drew | with_reducible apply below_drewN | with_reducible apply Below.alloc | with_reducible apply Below.setCell | (with_reducible refine Below.trans ?_ (Below.mono (by assumption) ?_)) | (simp; done) | (simp; omega) | omega | with_reducible apply le_size_alloc | with_reducible apply le_size_drewN | with_reducible apply le_size_drew | with_reducible apply le_size_setCell | refine Nat.le_trans ?_ (Below.size (by assumption))))⟩
        case measure => simp [intOf]; omega
      · have HL3 : Hid (zs.length ≤ 3) := by show _ ≤ _; rw [HL.out]; exact hk3
        have hO : OwnR intE wr w2.heap.size (.slice A' zs.length c') zs := by rw [HL.out]; exact HOz.out
        have HOO := Lib.hid hO
        clear hO
        by_cases g : k < sps.length
        · obtain rfl : k = 3 := by omega
          have i1 : (3 : Int) < sps.length := by omega
          go_wp2_with fail
          go_meet
          exact ⟨A', c', zs, by rw [HL.out], HL3.out, HZ.out, HOO.out, hbr⟩
        · obtain rfl : k = sps.length := by omega
          go_wp2_with fail
          go_meet
          exact ⟨A', c', zs, by rw [HL.out], HL3.out, HZ.out, HOO.out, hbr⟩
  case rest =>
  obtain ⟨A', c', zs, rfl, hz3, HZ, HOz, hbc⟩ := hcut
  have hsc : scrE l = 0 := by
    unfold scrE
    rw [if_neg (by omega)]
    exact fstNZ_all fun y hy => by
      obtain ⟨p, hp, rfl⟩ := List.mem_map.1 hy
      exact (HPV.out p hp).sco
  have hre : rnkE l zs = 0 := by
    unfold rnkE
    rw [if_pos hsc, spB_all HZ.out]; rfl
  have BC : Below w.heap.size w wc := B2.trans (hbc.mono B2.size)
  have zc := hbc.size
  have hRk := Ranks_own (some ⟨g, 0, none⟩) db l A' c' zs wc (HAL2.out.ext hbc) (OwnR.sr (HO.out.ext hbc)).2 (by omega) (OwnR.sr HOz.out).2.sl (by omega) hre
  unfold RnkOwn at hRk
  have hScs := fun w' (hb : Below w2.heap.size w2 w') => Scores_any (some ⟨g, 0, none⟩) db l w' (HAL2.out.ext hb) (OwnR.sr (HO.out.ext hb)).2 (by omega)
  have hVc := fun w' (hb : Below w2.heap.size w2 w') (hz : Sl w' (.int .i64) A' zs) => Victim_any (some ⟨g, 0, none⟩) db l A' c' zs w' (HAL2.out.ext hb) (OwnR.sr (HO.out.ext hb)).2 (by omega) hz (by omega)
  unfold ScrPost at hScs
  rw [hsc] at hScs
  simp only [if_true] at hScs
  go_wp2_with fail
  refine hRk.mono ?_
  rintro e w3 ⟨⟨R, cr, rfl, hR⟩, hb3⟩
  have B3 : Below w2.heap.size w2 w3 := hbc.trans (hb3.mono zc)
  have HR3 : Hid (OwnR intE w3 wc.heap.size (.slice R (rnkL l zs).length cr) (rnkL l zs)) := hR
  have HZ3 : Hid (OwnR intE w3 w2.heap.size (.slice A' zs.length c') zs) := HOz.out.ext hb3
  have zc3 := hb3.size
  clear hR hRk hb3 HOz
  go_wp2_with fail
  refine (hScs _ B3).mono ?_
  rintro e w4 ⟨⟨S, cs, rfl, hS⟩, hb4⟩
  have B4 : Below w2.heap.size w2 w4 := B3.trans (hb4.mono (Nat.le_trans zc zc3))
  have HR4 : Hid (OwnR intE w4 wc.heap.size (.slice R (rnkL l zs).length cr) (rnkL l zs)) := HR3.out.ext hb4
  have HZ4 : Hid (OwnR intE w4 w2.heap.size (.slice A' zs.length c') zs) := HZ3.out.ext hb4
  have HS4 : Hid (Sl w4 (.int .i64) S (scsL l)) := hS trivial
  have zc4 := hb4.size
  clear hS hScs HR3 HZ3
  go_wp2_with fail
  refine (hVc _ B4 (OwnR.sr HZ4.out).2.sl).mono ?_
  rintro e w5 ⟨rfl, hb5⟩
  have B5 : Below w2.heap.size w2 w5 := B4.trans (hb5.mono B4.size)
  have HR5 : Hid (OwnR intE w5 wc.heap.size (.slice R (rnkL l zs).length cr) (rnkL l zs)) := HR4.out.ext hb5
  have HZ5 : Hid (OwnR intE w5 w2.heap.size (.slice A' zs.length c') zs) := HZ4.out.ext hb5
  have HS5 : Hid (Sl w5 (.int .i64) S (scsL l)) := HS4.out.ext hb5
  have HO5 : Hid (OwnR procE w5 w1.heap.size (.slice (some ⟨g, 0, none⟩) l.length db) l) := HO.out.ext B5
  have hzc5 : wc.heap.size ≤ w5.heap.size := by have := hb5.size; omega
  have hsl8 : (scsL l).length = l.length := by simp [scsL]
  have hrl8 := rnkL_len l zs
  have Bw5 : Below w.heap.size w w5 := B2.trans (B5.mono B2.size)
  have HAL5 : Hid (AL w5) := HAL2.out.ext B5
  clear hVc hb4 hb5 HR4 HZ4 HS4 B3 B4 HO HAL2 HD
  go_wp2
  go_loopw [16, 15] (fun i t wr => ∃ k : Nat, k ≤ l.length ∧ i = .int .i64 k ∧ t = .int .i64 (cntC l zs k : Int) ∧ Below w5.heap.size w5 wr) (fun i _ _ => l.length - (intOf i).toNat)
  case atStart => exact ⟨0, by omega, rfl, rfl, Below.refl _ _⟩
  case round =>
    obtain ⟨k, hk, rfl, rfl, hbw⟩ := hrel
    have zwr := hbw.size
    by_cases hlt : k < l.length
    · obtain ⟨b, off, p, e1, hbl, hpx, hRg⟩ := proc_at (OwnR.sr (HO5.out.ext hbw)).2 hlt
      injection e1 with e1
      injection e1 with e1 e2 _
      subst e1 e2
      have hst : wr.cell? ⟨g, k * 75, none⟩ = some (.int .i64 p.st) := by have := hRg 0 _ (show (pvC p)[0]? = some (.int .i64 p.st) from rfl); simpa using this
      have i1 : (k : Int) < l.length := by omega
      have hh : ∀ w', Below wr.heap.size wr w' → Calls Tryz.prog 37 #[.slice A' zs.length c', .int .i64 ((k : Int) + 1)] w' fun e w2 => e = .returned (.bool (decide (((k : Int) + 1) ∈ zs))) ∧ Below w'.heap.size w' w2 := fun w' hb => has_any A' c' zs _ w' ((OwnR.sr (HZ5.out.ext hbw)).2.sl.ext hb) (by omega)
      have hcn := cntC_next l zs k
      have hck := cntC_le l zs k
      have HCN := Lib.hid hcn
      clear hcn hRg
      generalize cntC l zs k = cn at *
      by_cases h0 : p.st = 0
      · have HN : Hid (cntC l zs (k + 1) = cn) := by show _ = _; rw [HCN.out, candAt_no hpx (.inl h0)]; rfl
        have hb0 : (p.st != 0) = false := by simpa using h0
        clear h0 hpx hh
        go_wp2
        go_roundw
        case rel => exact ⟨k + 1, by omega, by go_num, by rw [HN.out], hbw⟩
        case measure => simp [intOf]; omega
      · have hb0 : (p.st != 0) = true := by simpa using h0
        by_cases h1 : ((k : Int) + 1) ∈ zs
        · have HN : Hid (cntC l zs (k + 1) = cn) := by show _ = _; rw [HCN.out, candAt_no hpx (.inr h1)]; rfl
          rw [decide_eq_true h1] at hh
          clear h0 hpx h1
          go_wp2_with (go_at_call 37; refine (hh _ (Below.refl _ _)).mono ?_; rintro e w6 ⟨rfl, hb6⟩)
          go_roundw
          case rel => exact ⟨k + 1, by omega, by go_num, by rw [HN.out], hbw.trans (hb6.mono zwr)⟩
          case measure => simp [intOf]; omega
        · have HN : Hid (cntC l zs (k + 1) = cn + 1) := by show _ = _; rw [HCN.out, candAt_yes hpx h0 h1]; rfl
          rw [decide_eq_false h1] at hh
          clear h0 hpx h1
          go_wp2_with (go_at_call 37; refine (hh _ (Below.refl _ _)).mono ?_; rintro e w6 ⟨rfl, hb6⟩)
          go_roundw
          case rel => exact ⟨k + 1, by omega, by go_num, by rw [HN.out]; go_num, hbw.trans (hb6.mono zwr)⟩
          case measure => simp [intOf]; omega
    · obtain rfl : k = l.length := by omega
      obtain ⟨w6, rfl⟩ : ∃ x, x = wr := ⟨_, rfl⟩
      rw [cntC_all]
      have HO6 : Hid (OwnR procE w6 w1.heap.size (.slice (some ⟨g, 0, none⟩) l.length db) l) := HO5.out.ext hbw
      have HZ6 : Hid (OwnR intE w6 w2.heap.size (.slice A' zs.length c') zs) := HZ5.out.ext hbw
      have HR6 : Hid (OwnR intE w6 wc.heap.size (.slice R (rnkL l zs).length cr) (rnkL l zs)) := HR5.out.ext hbw
      have HS6 : Hid (Sl w6 (.int .i64) S (scsL l)) := HS5.out.ext hbw
      have Bw6 : Below w.heap.size w w6 := Bw5.trans (hbw.mono Bw5.size)
      have HAL6 : Hid (AL w6) := HAL5.out.ext hbw
      clear HO5 HZ5 HR5 HS5 HAL5 hbw Bw5 B5 hlt
      obtain ⟨N, hN⟩ : ∃ N, (rnkL l zs).length = N := ⟨_, rfl⟩
      rw [hN] at HR6 hrl8
      have HNN := Lib.hid hN
      rw [hN]
      clear hN
      go_wp2
      go_loopw [17] (fun i wr => ∃ k : Nat, k ≤ N ∧ i = .int .i64 k ∧ Below w6.heap.size w6 wr) (fun i _ => N - (intOf i).toNat)
      case atStart => exact ⟨0, by omega, rfl, Below.refl _ _⟩
      case round =>
        obtain ⟨k, hk, rfl, hbw⟩ := hrel
        obtain ⟨wq, rfl⟩ : ∃ x, x = wr := ⟨_, rfl⟩
        have zw := hbw.size
        by_cases hlt : k < N
        · have hNl : (rnkL l zs).length = N := HNN.out
          obtain ⟨hN1, hR1⟩ := OwnR.sr (HR6.out.ext hbw)
          obtain ⟨bR, oR, x, rfl, hbR, hxr, hx⟩ := hR1.sl.at_ (show k < (rnkL l zs).length by omega)
          have hcr : N ≤ cr := by
            have h1 : OwnR intE wq wc.heap.size (.slice (some ⟨bR, oR, none⟩) (rnkL l zs).length cr) (rnkL l zs) := by rw [hNl]; exact HR6.out.ext hbw
            have h2 : CanR intE wq wc.heap.size (some ⟨bR, oR, none⟩) cr (rnkL l zs) := .inr h1
            have := (CanR.cr h2).2
            omega
          obtain ⟨g1, g2, g3, ⟨p, hp, g4⟩, g5, g6⟩ := rnk_at hxr
          obtain ⟨j, rfl⟩ : ∃ j : Nat, x = (j : Int) + 1 := ⟨(x - 1).toNat, by omega⟩
          have ej : ((j : Int) + 1 - 1).toNat = j := by omega
          rw [ej] at hp
          obtain ⟨bl, ol, p', e1, hbl, hp', hRg⟩ := proc_at (OwnR.sr (HO6.out.ext hbw)).2 (show j < l.length by omega)
          injection e1 with e1
          injection e1 with e1 e2 _
          subst e1 e2
          obtain rfl : p = p' := by rw [hp] at hp'; injection hp'
          have hst : wq.cell? ⟨g, j * 75, none⟩ = some (.int .i64 p.st) := by have := hRg 0 _ (show (pvC p)[0]? = some (.int .i64 p.st) from rfl); simpa using this
          have hb0' : (p.st == 0) = false := by simpa using g4
          have i1 : (k : Int) < N := by omega
          have i2 : (j : Int) < l.length := by omega
          have i3 : ¬ (j : Int) + 1 < 1 := by omega
          have i4 : ¬ (l.length : Int) < (j : Int) + 1 := by omega
          have hwj : IntKind.i64.wrap (j : Int) = (j : Int) := IntWalk.i64_in _ (by omega)
          have hh1 : ∀ w', Below wq.heap.size wq w' → Calls Tryz.prog 37 #[.slice A' zs.length c', .int .i64 ((j : Int) + 1)] w' fun e w2 => e = .returned (.bool false) ∧ Below w'.heap.size w' w2 := fun w' hb => by
            have := has_any A' c' zs ((j : Int) + 1) w' ((OwnR.sr (HZ6.out.ext hbw)).2.sl.ext hb) (by omega)
            rw [decide_eq_false g3] at this
            exact this
          have hlk : ((rnkL l zs).take k).length = k := by rw [List.length_take]; omega
          have hh2 : ∀ w', Below wq.heap.size wq w' → Calls Tryz.prog 37 #[.slice (some ⟨bR, oR, none⟩) k cr, .int .i64 ((j : Int) + 1)] w' fun e w2 => e = .returned (.bool false) ∧ Below w'.heap.size w' w2 := fun w' hb => by
            have := has_any (some ⟨bR, oR, none⟩) cr ((rnkL l zs).take k) ((j : Int) + 1) w' ((hR1.take k).sl.ext hb) (by omega)
            rw [decide_eq_false g5, hlk] at this
            exact this
          have hsl : ∀ w', (Instr.slice 23 (.slice (some ⟨bR, oR, none⟩) N cr) none (some (.int .i64 (k : Int))) none).run Tryz.prog w' = .ok (.slice (some ⟨bR, oR, none⟩) k cr) w' := fun w' => by
            have := run_preR intE (some ⟨bR, oR, none⟩) cr N (k : Int) (by omega) (by omega) w'
            rw [Int.toNat_natCast] at this
            exact this
          by_cases hk0 : 0 < k
          · have i5 : (0 : Int) < (k : Int) := by omega
            obtain ⟨bR', oR', y, e2, _, hyr, hy⟩ := hR1.sl.at_ (show k - 1 < (rnkL l zs).length by omega)
            injection e2 with e2
            injection e2 with e2 e3 _
            subst e2 e3
            obtain ⟨s, s', hs1', hs2', hle⟩ := g6 y hk0 hyr
            obtain ⟨y1, y2, _, _, _, _⟩ := rnk_at hyr
            obtain ⟨j2, rfl⟩ : ∃ j2 : Nat, y = (j2 : Int) + 1 := ⟨(y - 1).toNat, by omega⟩
            rw [ej] at hs1'
            rw [show ((j2 : Int) + 1 - 1).toNat = j2 by omega] at hs2'
            obtain ⟨bS, oS, s1, rfl, hbS, hq1, hs1⟩ := (HS6.out.ext hbw).at_ (show j < (scsL l).length by omega)
            obtain ⟨bS', oS', s2, e4, _, hq2, hs2⟩ := (HS6.out.ext hbw).at_ (show j2 < (scsL l).length by omega)
            injection e4 with e4
            injection e4 with e4 e5 _
            subst e4 e5
            obtain rfl : s = s1 := by rw [hs1'] at hq1; injection hq1
            obtain rfl : s' = s2 := by rw [hs2'] at hq2; injection hq2
            have i6 : ¬ s' < s := by omega
            have i7 : (j2 : Int) < l.length := by omega
            have hwj2 : IntKind.i64.wrap (j2 : Int) = (j2 : Int) := IntWalk.i64_in _ (by omega)
            have hwk : IntKind.i64.wrap ((k : Int) - 1) = (k : Int) - 1 := IntWalk.i64_in _ (by omega)
            have i8 : (0 : Int) ≤ (k : Int) - 1 := by omega
            have i10 : (1 : Int) ≤ (k : Int) := by omega
            have i9 : (k : Int) - 1 < N := by omega
            have ek : ((k : Int) - 1).toNat = k - 1 := by omega
            clear g6 hs1' hs2' hq1 hq2 hxr hyr hp hp' hRg hR1 hN1 hlk g5 g3 hNl hcr
            go_wp2_with fail
            (try simp only [List.append_eq, List.cons_append, List.nil_append])
            refine wp_region_chain (.is ?fq0 :: .is ?fq1 :: .is ?fq2 :: .is ?fq3 :: .is (.bool false) :: .is (.bool false) :: .is ?fq6 :: .is ?fq7 :: .is ?fq8 :: .is ?fq9 :: .is ?fq10 :: .is ?fq11 :: .is (.bool false) :: .is (.bool false) :: .is (.bool false) :: .is ?fq15 :: .is ?fq16 :: .is ?fq17 :: .is ?fq18 :: .is ?fq19 :: .is ?fq20 :: .is ?fq21 :: .is ?fq22 :: .is ?fq23 :: .is (.bool false) :: .is (.bool false) :: .is (.bool false) :: .is ?fq27 :: .is ?fq28 :: .is ?fq29 :: .is ?fq30 :: .is ?fq31 :: .is (.bool false) :: .is (.bool false) :: .is (.bool false) :: .is ?fq35 :: .is ?fq36 :: .is ?fq37 :: .is ?fq38 :: .is ?fq39 :: .is ?fq40 :: .is ?fq41 :: .is (.bool false) :: .is (.bool false) :: .is (.bool false) :: .is ?fq45 :: .is (.bool true) :: .is (.bool true) :: .is ?fq48 :: .is ?fq49 :: .is ?fq50 :: .is ?fq51 :: .is ?fq52 :: .is ?fq53 :: .is ?fq54 :: .is ?fq55 :: .is ?fq56 :: .is ?fq57 :: .is ?fq58 :: .is ?fq59 :: .is ?fq60 :: .is ?fq61 :: .is ?fq62 :: .is ?fq63 :: .is ?fq64 :: .is (.bool false) :: .is (.bool false) :: .is (.bool false) :: []) (by kernel_rfl) (by kernel_rfl) (by kernel_rfl) (lasts_is (lasts_is (lasts_is (lasts_is (lasts_is (lasts_is (lasts_is (lasts_is (lasts_is (lasts_is (lasts_is (lasts_is (lasts_is (lasts_is (lasts_is (lasts_is (lasts_is (lasts_is (lasts_is (lasts_is (lasts_is (lasts_is (lasts_is (lasts_is (lasts_is (lasts_is (lasts_is (lasts_is (lasts_is (lasts_is (lasts_is (lasts_is (lasts_is (lasts_is (lasts_is (lasts_is (lasts_is (lasts_is (lasts_is (lasts_is (lasts_is (lasts_is (lasts_is (lasts_is (lasts_is (lasts_is (lasts_is (lasts_is (lasts_is (lasts_is (lasts_is (lasts_is (lasts_is (lasts_is (lasts_is (lasts_is (lasts_is (lasts_is (lasts_is (lasts_is (lasts_is (lasts_is (lasts_is (lasts_is (lasts_is (lasts_is (lasts_is (lasts_is lasts_nil)))))))))))))))))))))))))))))))))))))))))))))))))))))))))))))))))))) (fun W0 hb0 hz0 => ?_)
            rotate_left 49
            refine chain_is (step_take (by rfl) ?yq0) ?rq0
            case yq0 =>
              intro w hbw hd
              clear hd
              go_simp
              first | done | with_reducible rfl
            (try simp only [Act.put, List.setIfInBounds_toArray, List.set_cons_zero, List.set_cons_succ, List.nil_append, List.cons_append])
            refine chain_is (step_take (by rfl) ?yq1) ?rq1
            case yq1 =>
              intro w hbw hd
              clear hd
              go_simp
              first | done | with_reducible rfl
            (try simp only [Act.put, List.setIfInBounds_toArray, List.set_cons_zero, List.set_cons_succ, List.nil_append, List.cons_append])
            refine chain_is (step_take (by rfl) ?yq2) ?rq2
            case yq2 =>
              intro w hbw hd
              clear hd
              go_simp
              first | done | with_reducible rfl
            (try simp only [Act.put, List.setIfInBounds_toArray, List.set_cons_zero, List.set_cons_succ, List.nil_append, List.cons_append])
            refine chain_is (step_take (by rfl) ?yq3) ?rq3
            case yq3 =>
              intro w hbw hd
              have q := cell_keep hbw (cell_keep hb0 hx hbR) (by rw [hz0]; exact hbR)
              clear hd
              go_simp
              first | done | with_reducible rfl
            (try simp only [Act.put, List.setIfInBounds_toArray, List.set_cons_zero, List.set_cons_succ, List.nil_append, List.cons_append])
            refine chain_is (step_take (by rfl) ?yq4) ?rq4
            case yq4 =>
              intro w hbw hd
              clear hd
              go_simp
              first | done | with_reducible rfl
            (try simp only [Act.put, List.setIfInBounds_toArray, List.set_cons_zero, List.set_cons_succ, List.nil_append, List.cons_append])
            refine chain_is (step_take (by rfl) ?yq5) ?rq5
            case yq5 =>
              intro w hbw hd
              clear hd
              go_simp
              first | done | with_reducible rfl
            (try simp only [Act.put, List.setIfInBounds_toArray, List.set_cons_zero, List.set_cons_succ, List.nil_append, List.cons_append])
            refine chain_is (step_take (by rfl) ?yq6) ?rq6
            case yq6 =>
              intro w hbw hd
              clear hd
              go_simp
              first | done | with_reducible rfl
            (try simp only [Act.put, List.setIfInBounds_toArray, List.set_cons_zero, List.set_cons_succ, List.nil_append, List.cons_append])
            refine chain_is (step_take (by rfl) ?yq7) ?rq7
            case yq7 =>
              intro w hbw hd
              clear hd
              go_simp
              first | done | with_reducible rfl
            (try simp only [Act.put, List.setIfInBounds_toArray, List.set_cons_zero, List.set_cons_succ, List.nil_append, List.cons_append])
            refine chain_is (step_take (by rfl) ?yq8) ?rq8
            case yq8 =>
              intro w hbw hd
              clear hd
              go_simp
              first | done | with_reducible rfl
            (try simp only [Act.put, List.setIfInBounds_toArray, List.set_cons_zero, List.set_cons_succ, List.nil_append, List.cons_append])
            refine chain_is (step_take (by rfl) ?yq9) ?rq9
            case yq9 =>
              intro w hbw hd
              have q := cell_keep hbw (cell_keep hb0 hx hbR) (by rw [hz0]; exact hbR)
              clear hd
              go_simp
              first | done | with_reducible rfl
            (try simp only [Act.put, List.setIfInBounds_toArray, List.set_cons_zero, List.set_cons_succ, List.nil_append, List.cons_append])
            refine chain_is (step_take (by rfl) ?yq10) ?rq10
            case yq10 =>
              intro w hbw hd
              clear hd
              go_simp
              first | done | with_reducible rfl
            (try simp only [Act.put, List.setIfInBounds_toArray, List.set_cons_zero, List.set_cons_succ, List.nil_append, List.cons_append])
            refine chain_is (step_take (by rfl) ?yq11) ?rq11
            case yq11 =>
              intro w hbw hd
              clear hd
              go_simp
              first | done | with_reducible rfl
            (try simp only [Act.put, List.setIfInBounds_toArray, List.set_cons_zero, List.set_cons_succ, List.nil_append, List.cons_append])
            refine chain_is (step_take (by rfl) ?yq12) ?rq12
            case yq12 =>
              intro w hbw hd
              clear hd
              go_simp
              first | done | with_reducible rfl
            (try simp only [Act.put, List.setIfInBounds_toArray, List.set_cons_zero, List.set_cons_succ, List.nil_append, List.cons_append])
            refine chain_is (step_take (by rfl) ?yq13) ?rq13
            case yq13 =>
              intro w hbw hd
              clear hd
              go_simp
              first | done | with_reducible rfl
            (try simp only [Act.put, List.setIfInBounds_toArray, List.set_cons_zero, List.set_cons_succ, List.nil_append, List.cons_append])
            refine chain_is (step_take (by rfl) ?yq14) ?rq14
            case yq14 =>
              intro w hbw hd
              clear hd
              go_simp
              first | done | with_reducible rfl
            (try simp only [Act.put, List.setIfInBounds_toArray, List.set_cons_zero, List.set_cons_succ, List.nil_append, List.cons_append])
            refine chain_is (step_take (by rfl) ?yq15) ?rq15
            case yq15 =>
              intro w hbw hd
              clear hd
              go_simp
              first | done | with_reducible rfl
            (try simp only [Act.put, List.setIfInBounds_toArray, List.set_cons_zero, List.set_cons_succ, List.nil_append, List.cons_append])
            refine chain_is (step_take (by rfl) ?yq16) ?rq16
            case yq16 =>
              intro w hbw hd
              clear hd
              go_simp
              first | done | with_reducible rfl
            (try simp only [Act.put, List.setIfInBounds_toArray, List.set_cons_zero, List.set_cons_succ, List.nil_append, List.cons_append])
            refine chain_is (step_take (by rfl) ?yq17) ?rq17
            case yq17 =>
              intro w hbw hd
              clear hd
              go_simp
              first | done | with_reducible rfl
            (try simp only [Act.put, List.setIfInBounds_toArray, List.set_cons_zero, List.set_cons_succ, List.nil_append, List.cons_append])
            refine chain_is (step_take (by rfl) ?yq18) ?rq18
            case yq18 =>
              intro w hbw hd
              clear hd
              go_simp
              first | done | with_reducible rfl
            (try simp only [Act.put, List.setIfInBounds_toArray, List.set_cons_zero, List.set_cons_succ, List.nil_append, List.cons_append])
            refine chain_is (step_take (by rfl) ?yq19) ?rq19
            case yq19 =>
              intro w hbw hd
              have q := cell_keep hbw (cell_keep hb0 hx hbR) (by rw [hz0]; exact hbR)
              clear hd
              go_simp
              first | done | with_reducible rfl
            (try simp only [Act.put, List.setIfInBounds_toArray, List.set_cons_zero, List.set_cons_succ, List.nil_append, List.cons_append])
            refine chain_is (step_take (by rfl) ?yq20) ?rq20
            case yq20 =>
              intro w hbw hd
              clear hd
              go_simp
              first | done | with_reducible rfl
            (try simp only [Act.put, List.setIfInBounds_toArray, List.set_cons_zero, List.set_cons_succ, List.nil_append, List.cons_append])
            refine chain_is (step_take (by rfl) ?yq21) ?rq21
            case yq21 =>
              intro w hbw hd
              clear hd
              go_simp
              first | done | with_reducible rfl
            (try simp only [Act.put, List.setIfInBounds_toArray, List.set_cons_zero, List.set_cons_succ, List.nil_append, List.cons_append])
            refine chain_is (step_take (by rfl) ?yq22) ?rq22
            case yq22 =>
              intro w hbw hd
              clear hd
              go_simp
              first | done | with_reducible rfl
            (try simp only [Act.put, List.setIfInBounds_toArray, List.set_cons_zero, List.set_cons_succ, List.nil_append, List.cons_append])
            refine chain_is (step_take (by rfl) ?yq23) ?rq23
            case yq23 =>
              intro w hbw hd
              have q := cell_keep hbw (cell_keep hb0 hst hbl) (by rw [hz0]; exact hbl)
              clear hd
              go_simp
              first | done | with_reducible rfl
            (try simp only [Act.put, List.setIfInBounds_toArray, List.set_cons_zero, List.set_cons_succ, List.nil_append, List.cons_append])
            refine chain_is (step_take (by rfl) ?yq24) ?rq24
            case yq24 =>
              intro w hbw hd
              clear hd
              go_simp
              first | done | with_reducible rfl
            (try simp only [Act.put, List.setIfInBounds_toArray, List.set_cons_zero, List.set_cons_succ, List.nil_append, List.cons_append])
            refine chain_is (step_take (by rfl) ?yq25) ?rq25
            case yq25 =>
              intro w hbw hd
              clear hd
              go_simp
              first | done | with_reducible rfl
            (try simp only [Act.put, List.setIfInBounds_toArray, List.set_cons_zero, List.set_cons_succ, List.nil_append, List.cons_append])
            refine chain_is (step_take (by rfl) ?yq26) ?rq26
            case yq26 =>
              intro w hbw hd
              clear hd
              go_simp
              first | done | with_reducible rfl
            (try simp only [Act.put, List.setIfInBounds_toArray, List.set_cons_zero, List.set_cons_succ, List.nil_append, List.cons_append])
            refine chain_is (step_take (by rfl) ?yq27) ?rq27
            case yq27 =>
              intro w hbw hd
              clear hd
              go_simp
              first | done | with_reducible rfl
            (try simp only [Act.put, List.setIfInBounds_toArray, List.set_cons_zero, List.set_cons_succ, List.nil_append, List.cons_append])
            refine chain_is (step_take (by rfl) ?yq28) ?rq28
            case yq28 =>
              intro w hbw hd
              clear hd
              go_simp
              first | done | with_reducible rfl
            (try simp only [Act.put, List.setIfInBounds_toArray, List.set_cons_zero, List.set_cons_succ, List.nil_append, List.cons_append])
            refine chain_is (step_take (by rfl) ?yq29) ?rq29
            case yq29 =>
              intro w hbw hd
              clear hd
              go_simp
              first | done | with_reducible rfl
            (try simp only [Act.put, List.setIfInBounds_toArray, List.set_cons_zero, List.set_cons_succ, List.nil_append, List.cons_append])
            refine chain_is (step_take (by rfl) ?yq30) ?rq30
            case yq30 =>
              intro w hbw hd
              clear hd
              go_simp
              first | done | with_reducible rfl
            (try simp only [Act.put, List.setIfInBounds_toArray, List.set_cons_zero, List.set_cons_succ, List.nil_append, List.cons_append])
            refine chain_is (step_take (by rfl) ?yq31) ?rq31
            case yq31 =>
              intro w hbw hd
              have q := cell_keep hbw (cell_keep hb0 hx hbR) (by rw [hz0]; exact hbR)
              clear hd
              go_simp
              first | done | with_reducible rfl
            (try simp only [Act.put, List.setIfInBounds_toArray, List.set_cons_zero, List.set_cons_succ, List.nil_append, List.cons_append])
            refine chain_is ?sq32 ?rq32
            case sq32 =>
              intro w hbw hd K Q' hK
              clear hd
              go_simp
              (go_at_call 37; refine (hh1 _ (hb0.trans (hbw.mono (by omega)))).mono ?_; rintro e w' ⟨rfl, hbe⟩)
              refine hK.out (.bool false) _ _ ?_ ?_ rfl
              · (simp only [Act.put, List.setIfInBounds_toArray, List.set_cons_zero, List.set_cons_succ, List.nil_append, List.cons_append])
              · exact (by repeat' (first | with_reducible exact Below.refl _ _ | with_reducible assumption | with_reducible apply Below.drew | with_reducible apply below_drewN | with_reducible apply Below.alloc | with_reducible apply Below.setCell | (with_reducible refine Below.trans ?_ (Below.mono (by assumption) ?_)) | (simp; done) | (simp; omega) | omega | with_reducible apply le_size_alloc | with_reducible apply le_size_drewN | with_reducible apply le_size_drew | with_reducible apply le_size_setCell | with_reducible refine Nat.le_trans ?_ (Below.size (by assumption))))
            (try simp only [Act.put, List.setIfInBounds_toArray, List.set_cons_zero, List.set_cons_succ, List.nil_append, List.cons_append])
            refine chain_is (step_take (by rfl) ?yq33) ?rq33
            case yq33 =>
              intro w hbw hd
              clear hd
              go_simp
              first | done | with_reducible rfl
            (try simp only [Act.put, List.setIfInBounds_toArray, List.set_cons_zero, List.set_cons_succ, List.nil_append, List.cons_append])
            refine chain_is (step_take (by rfl) ?yq34) ?rq34
            case yq34 =>
              intro w hbw hd
              clear hd
              go_simp
              first | done | with_reducible rfl
            (try simp only [Act.put, List.setIfInBounds_toArray, List.set_cons_zero, List.set_cons_succ, List.nil_append, List.cons_append])
            refine chain_is (step_take (by rfl) ?yq35) ?rq35
            case yq35 =>
              intro w hbw hd
              clear hd
              go_simp
              first | done | with_reducible rfl
            (try simp only [Act.put, List.setIfInBounds_toArray, List.set_cons_zero, List.set_cons_succ, List.nil_append, List.cons_append])
            refine chain_is (step_take (by rfl) ?yq36) ?rq36
            case yq36 =>
              intro w hbw hd
              clear hd
              go_simp
              first | done | with_reducible rfl
            (try simp only [Act.put, List.setIfInBounds_toArray, List.set_cons_zero, List.set_cons_succ, List.nil_append, List.cons_append])
            refine chain_is (step_take (by rfl) ?yq37) ?rq37
            case yq37 =>
              intro w hbw hd
              have q := hsl w
              clear hd
              go_simp
              first | done | with_reducible rfl
            (try simp only [Act.put, List.setIfInBounds_toArray, List.set_cons_zero, List.set_cons_succ, List.nil_append, List.cons_append])
            refine chain_is (step_take (by rfl) ?yq38) ?rq38
            case yq38 =>
              intro w hbw hd
              clear hd
              go_simp
              first | done | with_reducible rfl
            (try simp only [Act.put, List.setIfInBounds_toArray, List.set_cons_zero, List.set_cons_succ, List.nil_append, List.cons_append])
            refine chain_is (step_take (by rfl) ?yq39) ?rq39
            case yq39 =>
              intro w hbw hd
              clear hd
              go_simp
              first | done | with_reducible rfl
            (try simp only [Act.put, List.setIfInBounds_toArray, List.set_cons_zero, List.set_cons_succ, List.nil_append, List.cons_append])
            refine chain_is (step_take (by rfl) ?yq40) ?rq40
            case yq40 =>
              intro w hbw hd
              clear hd
              go_simp
              first | done | with_reducible rfl
            (try simp only [Act.put, List.setIfInBounds_toArray, List.set_cons_zero, List.set_cons_succ, List.nil_append, List.cons_append])
            refine chain_is (step_take (by rfl) ?yq41) ?rq41
            case yq41 =>
              intro w hbw hd
              have q := cell_keep hbw (cell_keep hb0 hx hbR) (by rw [hz0]; exact hbR)
              clear hd
              go_simp
              first | done | with_reducible rfl
            (try simp only [Act.put, List.setIfInBounds_toArray, List.set_cons_zero, List.set_cons_succ, List.nil_append, List.cons_append])
            refine chain_is ?sq42 ?rq42
            case sq42 =>
              intro w hbw hd K Q' hK
              clear hd
              go_simp
              (go_at_call 37; refine (hh2 _ (hb0.trans (hbw.mono (by omega)))).mono ?_; rintro e w' ⟨rfl, hbe⟩)
              refine hK.out (.bool false) _ _ ?_ ?_ rfl
              · (simp only [Act.put, List.setIfInBounds_toArray, List.set_cons_zero, List.set_cons_succ, List.nil_append, List.cons_append])
              · exact (by repeat' (first | with_reducible exact Below.refl _ _ | with_reducible assumption | with_reducible apply Below.drew | with_reducible apply below_drewN | with_reducible apply Below.alloc | with_reducible apply Below.setCell | (with_reducible refine Below.trans ?_ (Below.mono (by assumption) ?_)) | (simp; done) | (simp; omega) | omega | with_reducible apply le_size_alloc | with_reducible apply le_size_drewN | with_reducible apply le_size_drew | with_reducible apply le_size_setCell | with_reducible refine Nat.le_trans ?_ (Below.size (by assumption))))
            (try simp only [Act.put, List.setIfInBounds_toArray, List.set_cons_zero, List.set_cons_succ, List.nil_append, List.cons_append])
            refine chain_is (step_take (by rfl) ?yq43) ?rq43
            case yq43 =>
              intro w hbw hd
              clear hd
              go_simp
              first | done | with_reducible rfl
            (try simp only [Act.put, List.setIfInBounds_toArray, List.set_cons_zero, List.set_cons_succ, List.nil_append, List.cons_append])
            refine chain_is (step_take (by rfl) ?yq44) ?rq44
            case yq44 =>
              intro w hbw hd
              clear hd
              go_simp
              first | done | with_reducible rfl
            (try simp only [Act.put, List.setIfInBounds_toArray, List.set_cons_zero, List.set_cons_succ, List.nil_append, List.cons_append])
            refine chain_is (step_take (by rfl) ?yq45) ?rq45
            case yq45 =>
              intro w hbw hd
              clear hd
              go_simp
              first | done | with_reducible rfl
            (try simp only [Act.put, List.setIfInBounds_toArray, List.set_cons_zero, List.set_cons_succ, List.nil_append, List.cons_append])
            refine chain_is (step_take (by rfl) ?yq46) ?rq46
            case yq46 =>
              intro w hbw hd
              clear hd
              go_simp
              first | done | with_reducible rfl
            (try simp only [Act.put, List.setIfInBounds_toArray, List.set_cons_zero, List.set_cons_succ, List.nil_append, List.cons_append])
            refine chain_is (step_take (by rfl) ?yq47) ?rq47
            case yq47 =>
              intro w hbw hd
              clear hd
              go_simp
              first | done | with_reducible rfl
            (try simp only [Act.put, List.setIfInBounds_toArray, List.set_cons_zero, List.set_cons_succ, List.nil_append, List.cons_append])
            refine chain_is (step_take (by rfl) ?yq48) ?rq48
            case yq48 =>
              intro w hbw hd
              clear hd
              go_simp
              first | done | with_reducible rfl
            (try simp only [Act.put, List.setIfInBounds_toArray, List.set_cons_zero, List.set_cons_succ, List.nil_append, List.cons_append])
            refine chain_is (step_take (by rfl) ?yq49) ?rq49
            case yq49 =>
              intro w hbw hd
              clear hd
              go_simp
              first | done | with_reducible rfl
            (try simp only [Act.put, List.setIfInBounds_toArray, List.set_cons_zero, List.set_cons_succ, List.nil_append, List.cons_append])
            refine chain_is (step_take (by rfl) ?yq50) ?rq50
            case yq50 =>
              intro w hbw hd
              clear hd
              go_simp
              first | done | with_reducible rfl
            (try simp only [Act.put, List.setIfInBounds_toArray, List.set_cons_zero, List.set_cons_succ, List.nil_append, List.cons_append])
            refine chain_is (step_take (by rfl) ?yq51) ?rq51
            case yq51 =>
              intro w hbw hd
              clear hd
              go_simp
              first | done | with_reducible rfl
            (try simp only [Act.put, List.setIfInBounds_toArray, List.set_cons_zero, List.set_cons_succ, List.nil_append, List.cons_append])
            refine chain_is (step_take (by rfl) ?yq52) ?rq52
            case yq52 =>
              intro w hbw hd
              have q := cell_keep hbw (cell_keep hb0 hx hbR) (by rw [hz0]; exact hbR)
              clear hd
              go_simp
              first | done | with_reducible rfl
            (try simp only [Act.put, List.setIfInBounds_toArray, List.set_cons_zero, List.set_cons_succ, List.nil_append, List.cons_append])
            refine chain_is (step_take (by rfl) ?yq53) ?rq53
            case yq53 =>
              intro w hbw hd
              clear hd
              go_simp
              first | done | with_reducible rfl
            (try simp only [Act.put, List.setIfInBounds_toArray, List.set_cons_zero, List.set_cons_succ, List.nil_append, List.cons_append])
            refine chain_is (step_take (by rfl) ?yq54) ?rq54
            case yq54 =>
              intro w hbw hd
              clear hd
              go_simp
              first | done | with_reducible rfl
            (try simp only [Act.put, List.setIfInBounds_toArray, List.set_cons_zero, List.set_cons_succ, List.nil_append, List.cons_append])
            refine chain_is (step_take (by rfl) ?yq55) ?rq55
            case yq55 =>
              intro w hbw hd
              have q := cell_keep hbw (cell_keep hb0 hs1 hbS) (by rw [hz0]; exact hbS)
              clear hd
              go_simp
              first | done | with_reducible rfl
            (try simp only [Act.put, List.setIfInBounds_toArray, List.set_cons_zero, List.set_cons_succ, List.nil_append, List.cons_append])
            refine chain_is (step_take (by rfl) ?yq56) ?rq56
            case yq56 =>
              intro w hbw hd
              clear hd
              go_simp
              first | done | with_reducible rfl
            (try simp only [Act.put, List.setIfInBounds_toArray, List.set_cons_zero, List.set_cons_succ, List.nil_append, List.cons_append])
            refine chain_is (step_take (by rfl) ?yq57) ?rq57
            case yq57 =>
              intro w hbw hd
              clear hd
              go_simp
              first | done | with_reducible rfl
            (try simp only [Act.put, List.setIfInBounds_toArray, List.set_cons_zero, List.set_cons_succ, List.nil_append, List.cons_append])
            refine chain_is (step_take (by rfl) ?yq58) ?rq58
            case yq58 =>
              intro w hbw hd
              clear hd
              go_simp
              first | done | with_reducible rfl
            (try simp only [Act.put, List.setIfInBounds_toArray, List.set_cons_zero, List.set_cons_succ, List.nil_append, List.cons_append])
            refine chain_is (step_take (by rfl) ?yq59) ?rq59
            case yq59 =>
              intro w hbw hd
              clear hd
              go_simp
              first | done | with_reducible rfl
            (try simp only [Act.put, List.setIfInBounds_toArray, List.set_cons_zero, List.set_cons_succ, List.nil_append, List.cons_append])
            refine chain_is (step_take (by rfl) ?yq60) ?rq60
            case yq60 =>
              intro w hbw hd
              clear hd
              go_simp
              first | done | with_reducible rfl
            (try simp only [Act.put, List.setIfInBounds_toArray, List.set_cons_zero, List.set_cons_succ, List.nil_append, List.cons_append])
            refine chain_is (step_take (by rfl) ?yq61) ?rq61
            case yq61 =>
              intro w hbw hd
              have q := cell_keep hbw (cell_keep hb0 hy hbR) (by rw [hz0]; exact hbR)
              clear hd
              go_simp
              first | done | with_reducible rfl
            (try simp only [Act.put, List.setIfInBounds_toArray, List.set_cons_zero, List.set_cons_succ, List.nil_append, List.cons_append])
            refine chain_is (step_take (by rfl) ?yq62) ?rq62
            case yq62 =>
              intro w hbw hd
              clear hd
              go_simp
              first | done | with_reducible rfl
            (try simp only [Act.put, List.setIfInBounds_toArray, List.set_cons_zero, List.set_cons_succ, List.nil_append, List.cons_append])
            refine chain_is (step_take (by rfl) ?yq63) ?rq63
            case yq63 =>
              intro w hbw hd
              clear hd
              go_simp
              first | done | with_reducible rfl
            (try simp only [Act.put, List.setIfInBounds_toArray, List.set_cons_zero, List.set_cons_succ, List.nil_append, List.cons_append])
            refine chain_is (step_take (by rfl) ?yq64) ?rq64
            case yq64 =>
              intro w hbw hd
              have q := cell_keep hbw (cell_keep hb0 hs2 hbS) (by rw [hz0]; exact hbS)
              clear hd
              go_simp
              first | done | with_reducible rfl
            (try simp only [Act.put, List.setIfInBounds_toArray, List.set_cons_zero, List.set_cons_succ, List.nil_append, List.cons_append])
            refine chain_is (step_take (by rfl) ?yq65) ?rq65
            case yq65 =>
              intro w hbw hd
              clear hd
              go_simp
              first | done | with_reducible rfl
            (try simp only [Act.put, List.setIfInBounds_toArray, List.set_cons_zero, List.set_cons_succ, List.nil_append, List.cons_append])
            refine chain_is (step_take (by rfl) ?yq66) ?rq66
            case yq66 =>
              intro w hbw hd
              clear hd
              go_simp
              first | done | with_reducible rfl
            (try simp only [Act.put, List.setIfInBounds_toArray, List.set_cons_zero, List.set_cons_succ, List.nil_append, List.cons_append])
            refine chain_is (step_take (by rfl) ?yq67) ?rq67
            case yq67 =>
              intro w hbw hd
              clear hd
              go_simp
              first | done | with_reducible rfl
            (try simp only [Act.put, List.setIfInBounds_toArray, List.set_cons_zero, List.set_cons_succ, List.nil_append, List.cons_append])
            refine chain_end (fun wz hbz hd => ?_)
            have hbx : Below wq.heap.size wq wz := hb0.trans (hbz.mono (by omega))
            clear hd hbz hb0
            go_wp2
            go_roundw
            case rel => exact ⟨k + 1, by omega, by go_num, hbw.trans (hbx.mono zw)⟩
            case measure => simp [intOf]; omega
          · have i5 : ¬ (0 : Int) < (k : Int) := by omega
            clear g6 hxr hp hp' hRg hR1 hN1 hlk g5 g3 hNl hcr
            go_wp2_with fail
            (try simp only [List.append_eq, List.cons_append, List.nil_append])
            refine wp_region_chain (.is ?fp0 :: .is ?fp1 :: .is ?fp2 :: .is ?fp3 :: .is (.bool false) :: .is (.bool false) :: .is ?fp6 :: .is ?fp7 :: .is ?fp8 :: .is ?fp9 :: .is ?fp10 :: .is ?fp11 :: .is (.bool false) :: .is (.bool false) :: .is (.bool false) :: .is ?fp15 :: .is ?fp16 :: .is ?fp17 :: .is ?fp18 :: .is ?fp19 :: .is ?fp20 :: .is ?fp21 :: .is ?fp22 :: .is ?fp23 :: .is (.bool false) :: .is (.bool false) :: .is (.bool false) :: .is ?fp27 :: .is ?fp28 :: .is ?fp29 :: .is ?fp30 :: .is ?fp31 :: .is (.bool false) :: .is (.bool false) :: .is (.bool false) :: .is ?fp35 :: .is ?fp36 :: .is ?fp37 :: .is ?fp38 :: .is ?fp39 :: .is ?fp40 :: .is ?fp41 :: .is (.bool false) :: .is (.bool false) :: .is (.bool false) :: .is ?fp45 :: .is (.bool false) :: .is (.bool false) :: .is undef :: .is undef :: .is undef :: .is undef :: .is undef :: .is undef :: .is undef :: .is undef :: .is undef :: .is undef :: .is undef :: .is undef :: .is undef :: .is undef :: .is undef :: .is undef :: .is undef :: .is undef :: .is (.bool false) :: .is (.bool false) :: []) (by kernel_rfl) (by kernel_rfl) (by kernel_rfl) (lasts_is (lasts_is (lasts_is (lasts_is (lasts_is (lasts_is (lasts_is (lasts_is (lasts_is (lasts_is (lasts_is (lasts_is (lasts_is (lasts_is (lasts_is (lasts_is (lasts_is (lasts_is (lasts_is (lasts_is (lasts_is (lasts_is (lasts_is (lasts_is (lasts_is (lasts_is (lasts_is (lasts_is (lasts_is (lasts_is (lasts_is (lasts_is (lasts_is (lasts_is (lasts_is (lasts_is (lasts_is (lasts_is (lasts_is (lasts_is (lasts_is (lasts_is (lasts_is (lasts_is (lasts_is (lasts_is (lasts_is (lasts_is (lasts_is (lasts_is (lasts_is (lasts_is (lasts_is (lasts_is (lasts_is (lasts_is (lasts_is (lasts_is (lasts_is (lasts_is (lasts_is (lasts_is (lasts_is (lasts_is (lasts_is (lasts_is (lasts_is (lasts_is lasts_nil)))))))))))))))))))))))))))))))))))))))))))))))))))))))))))))))))))) (fun W0 hb0 hz0 => ?_)
            rotate_left 32
            refine chain_is (step_take (by rfl) ?yp0) ?rp0
            case yp0 =>
              intro w hbw hd
              clear hd
              go_simp
              first | done | with_reducible rfl
            (try simp only [Act.put, List.setIfInBounds_toArray, List.set_cons_zero, List.set_cons_succ, List.nil_append, List.cons_append])
            refine chain_is (step_take (by rfl) ?yp1) ?rp1
            case yp1 =>
              intro w hbw hd
              clear hd
              go_simp
              first | done | with_reducible rfl
            (try simp only [Act.put, List.setIfInBounds_toArray, List.set_cons_zero, List.set_cons_succ, List.nil_append, List.cons_append])
            refine chain_is (step_take (by rfl) ?yp2) ?rp2
            case yp2 =>
              intro w hbw hd
              clear hd
              go_simp
              first | done | with_reducible rfl
            (try simp only [Act.put, List.setIfInBounds_toArray, List.set_cons_zero, List.set_cons_succ, List.nil_append, List.cons_append])
            refine chain_is (step_take (by rfl) ?yp3) ?rp3
            case yp3 =>
              intro w hbw hd
              have q := cell_keep hbw (cell_keep hb0 hx hbR) (by rw [hz0]; exact hbR)
              clear hd
              go_simp
              first | done | with_reducible rfl
            (try simp only [Act.put, List.setIfInBounds_toArray, List.set_cons_zero, List.set_cons_succ, List.nil_append, List.cons_append])
            refine chain_is (step_take (by rfl) ?yp4) ?rp4
            case yp4 =>
              intro w hbw hd
              clear hd
              go_simp
              first | done | with_reducible rfl
            (try simp only [Act.put, List.setIfInBounds_toArray, List.set_cons_zero, List.set_cons_succ, List.nil_append, List.cons_append])
            refine chain_is (step_take (by rfl) ?yp5) ?rp5
            case yp5 =>
              intro w hbw hd
              clear hd
              go_simp
              first | done | with_reducible rfl
            (try simp only [Act.put, List.setIfInBounds_toArray, List.set_cons_zero, List.set_cons_succ, List.nil_append, List.cons_append])
            refine chain_is (step_take (by rfl) ?yp6) ?rp6
            case yp6 =>
              intro w hbw hd
              clear hd
              go_simp
              first | done | with_reducible rfl
            (try simp only [Act.put, List.setIfInBounds_toArray, List.set_cons_zero, List.set_cons_succ, List.nil_append, List.cons_append])
            refine chain_is (step_take (by rfl) ?yp7) ?rp7
            case yp7 =>
              intro w hbw hd
              clear hd
              go_simp
              first | done | with_reducible rfl
            (try simp only [Act.put, List.setIfInBounds_toArray, List.set_cons_zero, List.set_cons_succ, List.nil_append, List.cons_append])
            refine chain_is (step_take (by rfl) ?yp8) ?rp8
            case yp8 =>
              intro w hbw hd
              clear hd
              go_simp
              first | done | with_reducible rfl
            (try simp only [Act.put, List.setIfInBounds_toArray, List.set_cons_zero, List.set_cons_succ, List.nil_append, List.cons_append])
            refine chain_is (step_take (by rfl) ?yp9) ?rp9
            case yp9 =>
              intro w hbw hd
              have q := cell_keep hbw (cell_keep hb0 hx hbR) (by rw [hz0]; exact hbR)
              clear hd
              go_simp
              first | done | with_reducible rfl
            (try simp only [Act.put, List.setIfInBounds_toArray, List.set_cons_zero, List.set_cons_succ, List.nil_append, List.cons_append])
            refine chain_is (step_take (by rfl) ?yp10) ?rp10
            case yp10 =>
              intro w hbw hd
              clear hd
              go_simp
              first | done | with_reducible rfl
            (try simp only [Act.put, List.setIfInBounds_toArray, List.set_cons_zero, List.set_cons_succ, List.nil_append, List.cons_append])
            refine chain_is (step_take (by rfl) ?yp11) ?rp11
            case yp11 =>
              intro w hbw hd
              clear hd
              go_simp
              first | done | with_reducible rfl
            (try simp only [Act.put, List.setIfInBounds_toArray, List.set_cons_zero, List.set_cons_succ, List.nil_append, List.cons_append])
            refine chain_is (step_take (by rfl) ?yp12) ?rp12
            case yp12 =>
              intro w hbw hd
              clear hd
              go_simp
              first | done | with_reducible rfl
            (try simp only [Act.put, List.setIfInBounds_toArray, List.set_cons_zero, List.set_cons_succ, List.nil_append, List.cons_append])
            refine chain_is (step_take (by rfl) ?yp13) ?rp13
            case yp13 =>
              intro w hbw hd
              clear hd
              go_simp
              first | done | with_reducible rfl
            (try simp only [Act.put, List.setIfInBounds_toArray, List.set_cons_zero, List.set_cons_succ, List.nil_append, List.cons_append])
            refine chain_is (step_take (by rfl) ?yp14) ?rp14
            case yp14 =>
              intro w hbw hd
              clear hd
              go_simp
              first | done | with_reducible rfl
            (try simp only [Act.put, List.setIfInBounds_toArray, List.set_cons_zero, List.set_cons_succ, List.nil_append, List.cons_append])
            refine chain_is (step_take (by rfl) ?yp15) ?rp15
            case yp15 =>
              intro w hbw hd
              clear hd
              go_simp
              first | done | with_reducible rfl
            (try simp only [Act.put, List.setIfInBounds_toArray, List.set_cons_zero, List.set_cons_succ, List.nil_append, List.cons_append])
            refine chain_is (step_take (by rfl) ?yp16) ?rp16
            case yp16 =>
              intro w hbw hd
              clear hd
              go_simp
              first | done | with_reducible rfl
            (try simp only [Act.put, List.setIfInBounds_toArray, List.set_cons_zero, List.set_cons_succ, List.nil_append, List.cons_append])
            refine chain_is (step_take (by rfl) ?yp17) ?rp17
            case yp17 =>
              intro w hbw hd
              clear hd
              go_simp
              first | done | with_reducible rfl
            (try simp only [Act.put, List.setIfInBounds_toArray, List.set_cons_zero, List.set_cons_succ, List.nil_append, List.cons_append])
            refine chain_is (step_take (by rfl) ?yp18) ?rp18
            case yp18 =>
              intro w hbw hd
              clear hd
              go_simp
              first | done | with_reducible rfl
            (try simp only [Act.put, List.setIfInBounds_toArray, List.set_cons_zero, List.set_cons_succ, List.nil_append, List.cons_append])
            refine chain_is (step_take (by rfl) ?yp19) ?rp19
            case yp19 =>
              intro w hbw hd
              have q := cell_keep hbw (cell_keep hb0 hx hbR) (by rw [hz0]; exact hbR)
              clear hd
              go_simp
              first | done | with_reducible rfl
            (try simp only [Act.put, List.setIfInBounds_toArray, List.set_cons_zero, List.set_cons_succ, List.nil_append, List.cons_append])
            refine chain_is (step_take (by rfl) ?yp20) ?rp20
            case yp20 =>
              intro w hbw hd
              clear hd
              go_simp
              first | done | with_reducible rfl
            (try simp only [Act.put, List.setIfInBounds_toArray, List.set_cons_zero, List.set_cons_succ, List.nil_append, List.cons_append])
            refine chain_is (step_take (by rfl) ?yp21) ?rp21
            case yp21 =>
              intro w hbw hd
              clear hd
              go_simp
              first | done | with_reducible rfl
            (try simp only [Act.put, List.setIfInBounds_toArray, List.set_cons_zero, List.set_cons_succ, List.nil_append, List.cons_append])
            refine chain_is (step_take (by rfl) ?yp22) ?rp22
            case yp22 =>
              intro w hbw hd
              clear hd
              go_simp
              first | done | with_reducible rfl
            (try simp only [Act.put, List.setIfInBounds_toArray, List.set_cons_zero, List.set_cons_succ, List.nil_append, List.cons_append])
            refine chain_is (step_take (by rfl) ?yp23) ?rp23
            case yp23 =>
              intro w hbw hd
              have q := cell_keep hbw (cell_keep hb0 hst hbl) (by rw [hz0]; exact hbl)
              clear hd
              go_simp
              first | done | with_reducible rfl
            (try simp only [Act.put, List.setIfInBounds_toArray, List.set_cons_zero, List.set_cons_succ, List.nil_append, List.cons_append])
            refine chain_is (step_take (by rfl) ?yp24) ?rp24
            case yp24 =>
              intro w hbw hd
              clear hd
              go_simp
              first | done | with_reducible rfl
            (try simp only [Act.put, List.setIfInBounds_toArray, List.set_cons_zero, List.set_cons_succ, List.nil_append, List.cons_append])
            refine chain_is (step_take (by rfl) ?yp25) ?rp25
            case yp25 =>
              intro w hbw hd
              clear hd
              go_simp
              first | done | with_reducible rfl
            (try simp only [Act.put, List.setIfInBounds_toArray, List.set_cons_zero, List.set_cons_succ, List.nil_append, List.cons_append])
            refine chain_is (step_take (by rfl) ?yp26) ?rp26
            case yp26 =>
              intro w hbw hd
              clear hd
              go_simp
              first | done | with_reducible rfl
            (try simp only [Act.put, List.setIfInBounds_toArray, List.set_cons_zero, List.set_cons_succ, List.nil_append, List.cons_append])
            refine chain_is (step_take (by rfl) ?yp27) ?rp27
            case yp27 =>
              intro w hbw hd
              clear hd
              go_simp
              first | done | with_reducible rfl
            (try simp only [Act.put, List.setIfInBounds_toArray, List.set_cons_zero, List.set_cons_succ, List.nil_append, List.cons_append])
            refine chain_is (step_take (by rfl) ?yp28) ?rp28
            case yp28 =>
              intro w hbw hd
              clear hd
              go_simp
              first | done | with_reducible rfl
            (try simp only [Act.put, List.setIfInBounds_toArray, List.set_cons_zero, List.set_cons_succ, List.nil_append, List.cons_append])
            refine chain_is (step_take (by rfl) ?yp29) ?rp29
            case yp29 =>
              intro w hbw hd
              clear hd
              go_simp
              first | done | with_reducible rfl
            (try simp only [Act.put, List.setIfInBounds_toArray, List.set_cons_zero, List.set_cons_succ, List.nil_append, List.cons_append])
            refine chain_is (step_take (by rfl) ?yp30) ?rp30
            case yp30 =>
              intro w hbw hd
              clear hd
              go_simp
              first | done | with_reducible rfl
            (try simp only [Act.put, List.setIfInBounds_toArray, List.set_cons_zero, List.set_cons_succ, List.nil_append, List.cons_append])
            refine chain_is (step_take (by rfl) ?yp31) ?rp31
            case yp31 =>
              intro w hbw hd
              have q := cell_keep hbw (cell_keep hb0 hx hbR) (by rw [hz0]; exact hbR)
              clear hd
              go_simp
              first | done | with_reducible rfl
            (try simp only [Act.put, List.setIfInBounds_toArray, List.set_cons_zero, List.set_cons_succ, List.nil_append, List.cons_append])
            refine chain_is ?sp32 ?rp32
            case sp32 =>
              intro w hbw hd K Q' hK
              clear hd
              go_simp
              (go_at_call 37; refine (hh1 _ (hb0.trans (hbw.mono (by omega)))).mono ?_; rintro e w' ⟨rfl, hbe⟩)
              refine hK.out (.bool false) _ _ ?_ ?_ rfl
              · (simp only [Act.put, List.setIfInBounds_toArray, List.set_cons_zero, List.set_cons_succ, List.nil_append, List.cons_append])
              · exact (by repeat' (first | with_reducible exact Below.refl _ _ | with_reducible assumption | with_reducible apply Below.drew | with_reducible apply below_drewN | with_reducible apply Below.alloc | with_reducible apply Below.setCell | (with_reducible refine Below.trans ?_ (Below.mono (by assumption) ?_)) | (simp; done) | (simp; omega) | omega | with_reducible apply le_size_alloc | with_reducible apply le_size_drewN | with_reducible apply le_size_drew | with_reducible apply le_size_setCell | with_reducible refine Nat.le_trans ?_ (Below.size (by assumption))))
            (try simp only [Act.put, List.setIfInBounds_toArray, List.set_cons_zero, List.set_cons_succ, List.nil_append, List.cons_append])
            refine chain_is (step_take (by rfl) ?yp33) ?rp33
            case yp33 =>
              intro w hbw hd
              clear hd
              go_simp
              first | done | with_reducible rfl
            (try simp only [Act.put, List.setIfInBounds_toArray, List.set_cons_zero, List.set_cons_succ, List.nil_append, List.cons_append])
            refine chain_is (step_take (by rfl) ?yp34) ?rp34
            case yp34 =>
              intro w hbw hd
              clear hd
              go_simp
              first | done | with_reducible rfl
            (try simp only [Act.put, List.setIfInBounds_toArray, List.set_cons_zero, List.set_cons_succ, List.nil_append, List.cons_append])
            refine chain_is (step_take (by rfl) ?yp35) ?rp35
            case yp35 =>
              intro w hbw hd
              clear hd
              go_simp
              first | done | with_reducible rfl
            (try simp only [Act.put, List.setIfInBounds_toArray, List.set_cons_zero, List.set_cons_succ, List.nil_append, List.cons_append])
            refine chain_is (step_take (by rfl) ?yp36) ?rp36
            case yp36 =>
              intro w hbw hd
              clear hd
              go_simp
              first | done | with_reducible rfl
            (try simp only [Act.put, List.setIfInBounds_toArray, List.set_cons_zero, List.set_cons_succ, List.nil_append, List.cons_append])
            refine chain_is (step_take (by rfl) ?yp37) ?rp37
            case yp37 =>
              intro w hbw hd
              have q := hsl w
              clear hd
              go_simp
              first | done | with_reducible rfl
            (try simp only [Act.put, List.setIfInBounds_toArray, List.set_cons_zero, List.set_cons_succ, List.nil_append, List.cons_append])
            refine chain_is (step_take (by rfl) ?yp38) ?rp38
            case yp38 =>
              intro w hbw hd
              clear hd
              go_simp
              first | done | with_reducible rfl
            (try simp only [Act.put, List.setIfInBounds_toArray, List.set_cons_zero, List.set_cons_succ, List.nil_append, List.cons_append])
            refine chain_is (step_take (by rfl) ?yp39) ?rp39
            case yp39 =>
              intro w hbw hd
              clear hd
              go_simp
              first | done | with_reducible rfl
            (try simp only [Act.put, List.setIfInBounds_toArray, List.set_cons_zero, List.set_cons_succ, List.nil_append, List.cons_append])
            refine chain_is (step_take (by rfl) ?yp40) ?rp40
            case yp40 =>
              intro w hbw hd
              clear hd
              go_simp
              first | done | with_reducible rfl
            (try simp only [Act.put, List.setIfInBounds_toArray, List.set_cons_zero, List.set_cons_succ, List.nil_append, List.cons_append])
            refine chain_is (step_take (by rfl) ?yp41) ?rp41
            case yp41 =>
              intro w hbw hd
              have q := cell_keep hbw (cell_keep hb0 hx hbR) (by rw [hz0]; exact hbR)
              clear hd
              go_simp
              first | done | with_reducible rfl
            (try simp only [Act.put, List.setIfInBounds_toArray, List.set_cons_zero, List.set_cons_succ, List.nil_append, List.cons_append])
            refine chain_is ?sp42 ?rp42
            case sp42 =>
              intro w hbw hd K Q' hK
              clear hd
              go_simp
              (go_at_call 37; refine (hh2 _ (hb0.trans (hbw.mono (by omega)))).mono ?_; rintro e w' ⟨rfl, hbe⟩)
              refine hK.out (.bool false) _ _ ?_ ?_ rfl
              · (simp only [Act.put, List.setIfInBounds_toArray, List.set_cons_zero, List.set_cons_succ, List.nil_append, List.cons_append])
              · exact (by repeat' (first | with_reducible exact Below.refl _ _ | with_reducible assumption | with_reducible apply Below.drew | with_reducible apply below_drewN | with_reducible apply Below.alloc | with_reducible apply Below.setCell | (with_reducible refine Below.trans ?_ (Below.mono (by assumption) ?_)) | (simp; done) | (simp; omega) | omega | with_reducible apply le_size_alloc | with_reducible apply le_size_drewN | with_reducible apply le_size_drew | with_reducible apply le_size_setCell | with_reducible refine Nat.le_trans ?_ (Below.size (by assumption))))
            (try simp only [Act.put, List.setIfInBounds_toArray, List.set_cons_zero, List.set_cons_succ, List.nil_append, List.cons_append])
            refine chain_is (step_take (by rfl) ?yp43) ?rp43
            case yp43 =>
              intro w hbw hd
              clear hd
              go_simp
              first | done | with_reducible rfl
            (try simp only [Act.put, List.setIfInBounds_toArray, List.set_cons_zero, List.set_cons_succ, List.nil_append, List.cons_append])
            refine chain_is (step_take (by rfl) ?yp44) ?rp44
            case yp44 =>
              intro w hbw hd
              clear hd
              go_simp
              first | done | with_reducible rfl
            (try simp only [Act.put, List.setIfInBounds_toArray, List.set_cons_zero, List.set_cons_succ, List.nil_append, List.cons_append])
            refine chain_is (step_take (by rfl) ?yp45) ?rp45
            case yp45 =>
              intro w hbw hd
              clear hd
              go_simp
              first | done | with_reducible rfl
            (try simp only [Act.put, List.setIfInBounds_toArray, List.set_cons_zero, List.set_cons_succ, List.nil_append, List.cons_append])
            refine chain_is (step_take (by rfl) ?yp46) ?rp46
            case yp46 =>
              intro w hbw hd
              clear hd
              go_simp
              first | done | with_reducible rfl
            (try simp only [Act.put, List.setIfInBounds_toArray, List.set_cons_zero, List.set_cons_succ, List.nil_append, List.cons_append])
            refine chain_is (step_take (by rfl) ?yp47) ?rp47
            case yp47 =>
              intro w hbw hd
              clear hd
              go_simp
              first | done | with_reducible rfl
            (try simp only [Act.put, List.setIfInBounds_toArray, List.set_cons_zero, List.set_cons_succ, List.nil_append, List.cons_append])
            refine chain_is (step_un (by rfl)) ?rp48
            (try simp only [Act.put, List.setIfInBounds_toArray, List.set_cons_zero, List.set_cons_succ, List.nil_append, List.cons_append])
            refine chain_is (step_un (by rfl)) ?rp49
            (try simp only [Act.put, List.setIfInBounds_toArray, List.set_cons_zero, List.set_cons_succ, List.nil_append, List.cons_append])
            refine chain_is (step_un (by rfl)) ?rp50
            (try simp only [Act.put, List.setIfInBounds_toArray, List.set_cons_zero, List.set_cons_succ, List.nil_append, List.cons_append])
            refine chain_is (step_un (by rfl)) ?rp51
            (try simp only [Act.put, List.setIfInBounds_toArray, List.set_cons_zero, List.set_cons_succ, List.nil_append, List.cons_append])
            refine chain_is (step_un (by rfl)) ?rp52
            (try simp only [Act.put, List.setIfInBounds_toArray, List.set_cons_zero, List.set_cons_succ, List.nil_append, List.cons_append])
            refine chain_is (step_un (by rfl)) ?rp53
            (try simp only [Act.put, List.setIfInBounds_toArray, List.set_cons_zero, List.set_cons_succ, List.nil_append, List.cons_append])
            refine chain_is (step_un (by rfl)) ?rp54
            (try simp only [Act.put, List.setIfInBounds_toArray, List.set_cons_zero, List.set_cons_succ, List.nil_append, List.cons_append])
            refine chain_is (step_un (by rfl)) ?rp55
            (try simp only [Act.put, List.setIfInBounds_toArray, List.set_cons_zero, List.set_cons_succ, List.nil_append, List.cons_append])
            refine chain_is (step_un (by rfl)) ?rp56
            (try simp only [Act.put, List.setIfInBounds_toArray, List.set_cons_zero, List.set_cons_succ, List.nil_append, List.cons_append])
            refine chain_is (step_un (by rfl)) ?rp57
            (try simp only [Act.put, List.setIfInBounds_toArray, List.set_cons_zero, List.set_cons_succ, List.nil_append, List.cons_append])
            refine chain_is (step_un (by rfl)) ?rp58
            (try simp only [Act.put, List.setIfInBounds_toArray, List.set_cons_zero, List.set_cons_succ, List.nil_append, List.cons_append])
            refine chain_is (step_un (by rfl)) ?rp59
            (try simp only [Act.put, List.setIfInBounds_toArray, List.set_cons_zero, List.set_cons_succ, List.nil_append, List.cons_append])
            refine chain_is (step_un (by rfl)) ?rp60
            (try simp only [Act.put, List.setIfInBounds_toArray, List.set_cons_zero, List.set_cons_succ, List.nil_append, List.cons_append])
            refine chain_is (step_un (by rfl)) ?rp61
            (try simp only [Act.put, List.setIfInBounds_toArray, List.set_cons_zero, List.set_cons_succ, List.nil_append, List.cons_append])
            refine chain_is (step_un (by rfl)) ?rp62
            (try simp only [Act.put, List.setIfInBounds_toArray, List.set_cons_zero, List.set_cons_succ, List.nil_append, List.cons_append])
            refine chain_is (step_un (by rfl)) ?rp63
            (try simp only [Act.put, List.setIfInBounds_toArray, List.set_cons_zero, List.set_cons_succ, List.nil_append, List.cons_append])
            refine chain_is (step_un (by rfl)) ?rp64
            (try simp only [Act.put, List.setIfInBounds_toArray, List.set_cons_zero, List.set_cons_succ, List.nil_append, List.cons_append])
            refine chain_is (step_un (by rfl)) ?rp65
            (try simp only [Act.put, List.setIfInBounds_toArray, List.set_cons_zero, List.set_cons_succ, List.nil_append, List.cons_append])
            refine chain_is (step_take (by rfl) ?yp66) ?rp66
            case yp66 =>
              intro w hbw hd
              clear hd
              go_simp
              first | done | with_reducible rfl
            (try simp only [Act.put, List.setIfInBounds_toArray, List.set_cons_zero, List.set_cons_succ, List.nil_append, List.cons_append])
            refine chain_is (step_take (by rfl) ?yp67) ?rp67
            case yp67 =>
              intro w hbw hd
              clear hd
              go_simp
              first | done | with_reducible rfl
            (try simp only [Act.put, List.setIfInBounds_toArray, List.set_cons_zero, List.set_cons_succ, List.nil_append, List.cons_append])
            refine chain_end (fun wz hbz hd => ?_)
            have hbx : Below wq.heap.size wq wz := hb0.trans (hbz.mono (by omega))
            clear hd hbz hb0
            go_wp2
            go_roundw
            case rel => exact ⟨k + 1, by omega, by go_num, hbw.trans (hbx.mono zw)⟩
            case measure => simp [intOf]; omega
        · obtain rfl : k = N := by omega
          have hNl : (rnkL l zs).length = k := HNN.out
          have HO7 : Hid (OwnR procE wq w1.heap.size (.slice (some ⟨g, 0, none⟩) l.length db) l) := HO6.out.ext hbw
          have HZ7 : Hid (OwnR intE wq w2.heap.size (.slice A' zs.length c') zs) := HZ6.out.ext hbw
          have HR7 : Hid (OwnR intE wq wc.heap.size (.slice R k cr) (rnkL l zs)) := HR6.out.ext hbw
          have Bw7 : Below w.heap.size w wq := Bw6.trans (hbw.mono Bw6.size)
          have HAL7 : Hid (AL wq) := HAL6.out.ext hbw
          have hv := vic_of hre
          have hgw : w.heap.size ≤ g := by omega
          clear HO6 HZ6 HR6 HAL6 HS6 hbw Bw6 HNN hlt
          cases hr : rnkL l zs with
          | nil =>
            rw [hr] at hNl
            have hk0 : ((k : Int) == 0) = true := by simp at hNl; simp; omega
            rw [(hv.2 hr).1, (hv.2 hr).2]
            clear hr hNl hv
            go_wp2
            refine bodyPost_ret (v := .bool true) (by simp [results, Tryz.results6, go_sem]) rfl ?_
            exact ⟨rfl, Bw7⟩
          | cons v t =>
            obtain ⟨v1, v2, _, ⟨p, hp, _⟩, _, _⟩ := rnk_at (show (rnkL l zs)[0]? = some v by rw [hr]; rfl)
            obtain ⟨j, rfl⟩ : ∃ j : Nat, v = (j : Int) + 1 := ⟨(v - 1).toNat, by omega⟩
            have ej : ((j : Int) + 1 - 1).toNat = j := by omega
            rw [ej] at hp
            have hrt := rnkL_kill hr v1
            rw [ej] at hrt
            rw [((hv.1 _ _ hr)).1, ((hv.1 _ _ hr)).2]
            rw [hr] at hNl HR7
            have hk0 : ((k : Int) == 0) = false := by simp at hNl; simp; omega
            have hre2 : rnkE (killL l j) zs = 0 := by
              unfold rnkE at hre ⊢
              rw [killL_err, killL_len]
              exact hre
            have hv2 := vic_of hre2
            rw [hrt] at hv2
            have i2 : (j : Int) < l.length := by omega
            have hwj : IntKind.i64.wrap (j : Int) = (j : Int) := IntWalk.i64_in _ (by omega)
            have hjl : j < l.length := by omega
            -- the store
            have hpc : wq.cell? ⟨g, j * 75, none⟩ = some (.int .i64 p.st) := by
              have h1 := World.ownsRow.cellAt HO7.out (j * 75) (show j * 75 < l.length * 75 by omega)
              rw [h1]
              exact procE.flat_at (l := l) (k := j) (j := 0) hp (show (procE.enc p)[0]? = some (.int .i64 p.st) from rfl)
            have hpf : wq.frozen? ⟨g, j * 75, none⟩ = false := World.ownsRow.frozenAt HO7.out _
            have HOk : Hid (OwnR procE (wq.setCell ⟨g, j * 75, none⟩ (.int .i64 0)) w1.heap.size (.slice (some ⟨g, 0, none⟩) (killL l j).length db) (killL l j)) := by
              show World.ownsRow _ _ _ _ _ _ _
              have h1 := (World.ownsRow.stored HO7.out (j * 75) (.int .i64 0)).1
              have h2 := Elt.flat_set procE (j := 0) (by decide) (deadP_enc p) hp
              rw [show j * procE.sz + 0 = j * 75 from rfl] at h2
              rw [h2, ← killL_some hp] at h1
              rw [killL_len]
              exact h1
            have HZk : Hid (OwnR intE (wq.setCell ⟨g, j * 75, none⟩ (.int .i64 0)) w2.heap.size (.slice A' zs.length c') zs) := OwnR.far HZ7.out _ hg2
            have HRk : Hid (OwnR intE (wq.setCell ⟨g, j * 75, none⟩ (.int .i64 0)) wc.heap.size (.slice R k cr) (((j : Int) + 1) :: t)) := OwnR.far HR7.out _ (Nat.lt_of_lt_of_le hg2 zc)
            have HALk : Hid (AL (wq.setCell ⟨g, j * 75, none⟩ (.int .i64 0))) := AL.set HAL7.out (by show g ≠ 0; have := HAL.out.1; omega) _
            have Bwk : Below w.heap.size w (wq.setCell ⟨g, j * 75, none⟩ (.int .i64 0)) := Below.setCell Bw7 (by show _ ≤ g; exact hgw) _
            have hVk := Victim_any (some ⟨g, 0, none⟩) db (killL l j) A' c' zs
            rw [killL_len] at hVk
            have hl1000 : l.length ≤ 1000 := by omega
            have hz1000 : zs.length ≤ 1000 := by omega
            have hv0 := fun w' => v0_q ((j : Int) + 1) l.length w' ⟨by omega, by omega⟩
            rw [killL_len] at HOk
            clear hr hv hrt hre hre2 hp HO7 HZ7 HR7 HAL7
            generalize killL l j = lk at *
            have z7 : wq.heap.size ≤ (wq.setCell ⟨g, j * 75, none⟩ (.int .i64 0)).heap.size := by simp
            go_wp2_with (go_at_call 38; refine (hv0 _).mono ?_; rintro e w8 ⟨rfl, rfl⟩)
            generalize wq.setCell ⟨g, j * 75, none⟩ (.int .i64 0) = W at *
            refine (hVk W HALk.out (OwnR.sr HOk.out).2 hl1000 (OwnR.sr HZk.out).2.sl hz1000).mono ?_
            rintro e w8 ⟨rfl, hb8⟩
            have HR8 : Hid (Sl w8 (.int .i64) R (((j : Int) + 1) :: t)) := (OwnR.sr (HRk.out.ext hb8)).2.sl
            have Bw8 : Below w.heap.size w w8 := Bwk.trans (hb8.mono Bwk.size)
            obtain ⟨bR, oR, x0, rfl, hbR, hx0, hc0⟩ := HR8.out.at_ (show 0 < (((j : Int) + 1) :: t).length by simp)
            obtain rfl : x0 = (j : Int) + 1 := by simpa using hx0.symm
            have hc0' : w8.cell? ⟨bR, oR, none⟩ = some (.int .i64 ((j : Int) + 1)) := hc0
            cases t with
            | nil =>
              have hk1 : ((k : Int) == 1) = true := by simp at hNl; simp; omega
              have i1 : (0 : Int) < (k : Int) := by simp at hNl; omega
              rw [(hv2.2 rfl).1, (hv2.2 rfl).2]
              clear hv2 hVk hb8 HRk HZk HOk hx0 hc0 hNl
              go_wp2
              refine bodyPost_ret (v := .bool true) (by simp [results, Tryz.results6, go_sem]) rfl ?_
              exact ⟨rfl, Bw8⟩
            | cons y t =>
              have hk1 : ((k : Int) == 1) = false := by simp at hNl; simp; omega
              have i1 : (1 : Int) < (k : Int) := by simp at hNl; omega
              have i0 : (0 : Int) < (k : Int) := by omega
              obtain ⟨bR', oR', y0, e2, _, hy0, hc1⟩ := HR8.out.at_ (show 1 < (((j : Int) + 1) :: y :: t).length by simp)
              injection e2 with e2
              injection e2 with e2 e3 _
              subst e2 e3
              obtain rfl : y0 = y := by simpa using hy0.symm
              rw [(hv2.1 _ _ rfl).1, (hv2.1 _ _ rfl).2]
              clear hv2 hVk hb8 HRk HZk HOk hx0 hc0 hNl hy0
              go_wp2
              refine bodyPost_ret (v := .bool true) (by simp [results, Tryz.results6, go_sem]) rfl ?_
              exact ⟨rfl, Bw8⟩

set_option maxRecDepth 100000 in
theorem oomRanks_lifted (os : Os) (started : os.Started) (H : Type) (enc : TypeId × Value → H) :
    ReturnsInHanded {} Tryz.checked os 6 .any (fun w args => (Rows.oomRanksSpec.pre enc Tryz.prog Tryz.f6 [] false w args ∧ laidMetH Tryz.prog laidV w) ∧ sizedMet enc Tryz.prog Tryz.f6 (OpenSpec.ofChange Rows.oomRanksSpec) false w args) (Rows.oomRanksSpec.post enc Tryz.prog Tryz.f6 false true false false) := by
  refine returnsInHanded_of_change_and (C := Tryz.checked) (X := fun w _ => laidMetH Tryz.prog laidV w) (fun _ _ _ hh h => h.of_heap hh) own started (by kernel_rfl) Tryz.func6
    (ChangeSpec.witness_shaped (enc := enc) (C := Tryz.checked) (os := os) (X := fun w _ => laidMetH Tryz.prog laidV w) false (World.doorLaid Tryz.prog 400 os) #[.slice none 0 0, .slice none 0 0] 8 rfl (World.shaped_of_RefB (by kernel_rfl) (by kernel_rfl)) (by kernel_rfl) (by kernel_rfl) (by kernel_rfl) (door_met os _)) ?_
  intro W base args ds gs before hval0 hW hcnd _ hL _
  have hval : ∀ (j : Nat) t v, Tryz.f6.params[j]? = some t → args[j]? = some v → Value.okWide Tryz.prog W .any base t v := hval0
  have hW' := hW
  obtain ⟨p, q, hA0, hV, rfl, hfz, hnd⟩ := hW
  have hA : DataW.TrodAll enc Tryz.prog W 0 (fun _ => true) true Tryz.f6.params.toList args.toList ds p := hA0
  rw [Tryz.params6] at hA hval
  obtain ⟨v0, vs0, d0, ds0, p0, q0, hargs, rfl, rfl, h0, r0⟩ := trodAll_cons hA
  obtain ⟨v1, vs1, d1, ds1, p1, q1, rfl, rfl, rfl, h1, r1⟩ := trodAll_cons r0
  obtain ⟨rfl, rfl, rfl⟩ := trodAll_nil r1
  obtain rfl : args = #[v0, v1] := by cases args; simp_all
  obtain ⟨rfl, rfl⟩ := trodVars_none hV
  obtain ⟨A0, k0, a0, rfl, s0, w0, l0⟩ := open_slI Tryz.underlying23 Tryz.underlying3 (by kernel_rfl) (hval 0 23 v0 rfl rfl) h0
  obtain ⟨A1, k1, a1, rfl, s1, w1, l1⟩ := open_slI Tryz.underlying23 Tryz.underlying3 (by kernel_rfl) (hval 1 23 v1 rfl rfl) h1
  clear hA0 hval0
  refine (oomRanks_walk A0 k0 a0 A1 k1 a1 W s0 w0 l0 s1 w1 l1 (of_laid hL)).mono fun e W' ⟨he, hb⟩ => ⟨_, he, ?_⟩
  exact law_post laidOut (s := Rows.oomRanksSpec) (B := 4) rfl rfl Tryz.underlying4 (by decide +kernel) hW' rfl hb

theorem oomRanks_holds : Rows.OomRanksSaid :=
  OpenClaim.holds_of_wide 6 Tryz.f6 rfl rfl rfl rfl rfl rfl rfl ⟨rfl, rfl, rfl, rfl, rfl⟩ rfl rfl rfl rfl rfl (by kernel_rfl) Tryz.func6 (by kernel_rfl)
    (of_decide_eq_true (by kernel_rfl)) (by unfold Func.isWrapper; first | (rw [if_pos (by decide +kernel)]; kernel_rfl) | (rw [if_neg (by decide +kernel)]; exact ⟨rfl, rfl⟩))
    (fun os started H enc _ => oomRanks_lifted os started H enc)

theorem oomRanks_card : Rows.OomRanksCardSaid :=
  Claim7.holds_tied_plain_at .later [] [.data] true Rows.oomRanksCard.stood.harness false
    oomRanks_holds (fun _ h => by cases h) (by kernel_rfl) (fun _ h => by cases h) oomRanks_row_tie rfl ⟨rfl, rfl⟩ (by kernel_rfl) rfl
    (fun f fn hf hfn => by
      obtain rfl : f = 6 := Option.some.inj ((show Tryz.prog.funcNamed "headgate/headgatelaw34.OomRanks" = some 6 by kernel_rfl).symm.trans hf) |>.symm
      obtain rfl : fn = Tryz.f6 := (Option.some.inj (Tryz.func6.symm.trans hfn)).symm
      exact ⟨by kernel_rfl, fun j t ht => by
        have hall : (Tryz.f6.params.toList.all fun u => !Tryz.prog.wantsStandIn u) = true := by kernel_rfl
        have hm : t ∈ Tryz.f6.params.toList := by simpa using Array.mem_of_getElem? ht
        exact (show Tryz.prog.wantsStandIn t = false by simpa using List.all_eq_true.1 hall t hm)⟩)
    (by kernel_rfl)

end Go.Proofs.YtmbpjafiinfkkaaGreatDoor
