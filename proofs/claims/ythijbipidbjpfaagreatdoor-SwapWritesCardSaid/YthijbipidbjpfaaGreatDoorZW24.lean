import Derived.Test.YthijbipidbjpfaaGreatDoorZW23
import Derived.Test.YthijbipidbjpfaaGreatDoorZW00
import Derived.Test.YthijbipidbjpfaaGreatDoorZW06
import Derived.Test.YthijbipidbjpfaaGreatDoorZW20
import Derived.Test.YthijbipidbjpfaaGreatDoorZW03
import Derived.Test.YthijbipidbjpfaaGreatDoorZW02
import Derived.Test.YthijbipidbjpfaaGreatDoorZW18
set_option linter.unusedSimpArgs false
set_option linter.unusedVariables false
set_option maxRecDepth 100000
set_option maxHeartbeats 8000000
namespace Go.Proofs.YthijbipidbjpfaaGreatDoor
open Go.RowKit Go.Maps
theorem rwCheck_any (L : Lay) (s : Swp) (w : World) (h : SwR w L s) (hf : Few s) : Calls Tryz.prog 19 #[swV L s] w fun e w' => e = .returned (.int .i64 (chkW s)) ∧ Below w.heap.size w w' := by
 obtain ⟨a0, c0, a1, c1, a2, c2, a3, c3, a4, c4, a5, c5, a6, c6, a7, c7⟩ := L
 have HS := Lib.hid h
 have HF := Lib.hid hf
 obtain ⟨R, hR⟩ : ∃ R, chkW s = R := ⟨_, rfl⟩
 rw [hR]
 obtain ⟨z, hz⟩ : ∃ z, prtE s = z := ⟨_, rfl⟩
 have hP := fun W hw => rwParts_any ⟨a0, c0, a1, c1, a2, c2, a3, c3, a4, c4, a5, c5, a6, c6, a7, c7⟩ s W hw hf
 rw [hz] at hP
 have HP := Lib.hid hP
 have hRz := chkW_prt s
 rw [hR, hz] at hRz
 have f3 := hf.f3
 have f0 := hf.f0
 clear h hf hP
 unfold swV swC at HP ⊢
 obtain ⟨X, hX⟩ : ∃ X, w.alloc (.cells (zkx s a0 c0 a1 c1 a2 c2 a3 c3 a4 c4 a5 c5 a6 c6 a7 c7).toArray 35) = X := ⟨_, rfl⟩
 have kX : Blk X w.heap.size 35 (zkx s a0 c0 a1 c1 a2 c2 a3 c3 a4 c4 a5 c5 a6 c6 a7 c7).toArray := by rw [← hX]; exact zbk
 have BX : Below w.heap.size w X := by rw [← hX]; exact zbl
 have zX := kX.lt
 obtain ⟨q0, q1, q2, q3, q4, q5, q6, q7, q8, q9, q10⟩ := zc11 kX
 by_cases z0 : z = 0
 ·subst z0
  obtain ⟨hoT, hoV, hoD, hoP⟩ := prt_ok hz
  have HAG := Lib.hid (agR_iff hoT hoV hoD)
  have HB3 : Hid (¬ agW s = true → R = 3) := fun h => by rw [hRz, if_neg (by simp), if_neg h]
  have HG0 : Hid (agW s = true → R = 0) := fun h => by rw [hRz, if_neg (by simp), if_pos h]
  have HT := Lib.hid hoT
  have HM := Lib.hid (fun W hw => rwMatched_any ⟨a0, c0, a1, c1, a2, c2, a3, c3, a4, c4, a5, c5, a6, c6, a7, c7⟩ s W hw HF.out)
  have HD := Lib.hid (fun W hw => rwDescribed_any ⟨a0, c0, a1, c1, a2, c2, a3, c3, a4, c4, a5, c5, a6, c6, a7, c7⟩ s W hw HF.out hoP)
  clear hoT hoV hoD hoP hz hRz hR
  unfold swV swC at HM HD
  go_enter Tryz.func19, Tryz.ntmps19
  go_wp2_with fail
  (try rw [hX])
  clear hX
  refine (HP.out X (HS.out.ext BX)).mono ?_
  rintro e1 w1 ⟨rfl, hb1⟩
  have B1 := BX.trans (hb1.mono BX.size)
  replace kX := kX.below_ hb1 zX
  clear q0 q1 q2 q3 q4 q5 q6 q7 q8 q9 q10 hb1 zX
  have zX := kX.lt
  obtain ⟨q0, q1, q2, q3, q4, q5, q6, q7, q8, q9, q10⟩ := zc11 kX
  cases c1' : ((s.sl.refs.length : Int) != s.dk.cells.length) with
  | true =>
   have HE : Hid (R = 3) := HB3.out fun h => by have := (HAG.out.1 h).1.1; simp at c1'; omega
   go_wp2_with fail
   go_ret
   exact ⟨by rw [HE.out]; rfl, B1⟩
  | false =>
   cases c2' : (s.dk.room != s.po.size) with
   | true =>
    have HE : Hid (R = 3) := HB3.out fun h => by have := (HAG.out.1 h).1.2.1; simp at c2'; omega
    go_wp2_with fail
    go_ret
    exact ⟨by rw [HE.out]; rfl, B1⟩
   | false =>
    cases c3' : decide ((s.wr.length : Int) > s.cap) with
    | true =>
     have HE : Hid (R = 3) := HB3.out fun h => by have := (HAG.out.1 h).1.2.2; simp at c3'; omega
     go_wp2_with fail
     go_ret
     exact ⟨by rw [HE.out]; rfl, B1⟩
    | false =>
     have HQ1 : Hid (s.sl.refs.length = s.dk.cells.length ∧ s.dk.room = s.po.size ∧ (s.wr.length : Int) ≤ s.cap) := by simp at c1' c2' c3'; exact ⟨by omega, by omega, by omega⟩
     obtain ⟨mg, hmg⟩ : ∃ b, mtG s.dk.jobs s.wr s.rd = b := ⟨_, rfl⟩
     have hM := HM.out w1 (HS.out.ext B1)
     rw [hmg] at hM
     have HM1 := Lib.hid hM
     have HMG := Lib.hid hmg
     clear hM hmg
     go_wp2_with fail
     refine HM1.out.mono ?_
     rintro e2 w2 ⟨rfl, hb2⟩
     have B2 := B1.trans (hb2.mono B1.size)
     replace kX := kX.below_ hb2 zX
     clear q0 q1 q2 q3 q4 q5 q6 q7 q8 q9 q10 hb2 zX HM1
     have zX := kX.lt
     obtain ⟨q0, q1, q2, q3, q4, q5, q6, q7, q8, q9, q10⟩ := zc11 kX
     cases mg with
     | false =>
      have HE : Hid (R = 3) := HB3.out fun h => by have := (HAG.out.1 h).2.1; rw [HMG.out] at this; cases this
      go_wp2_with fail
      go_ret
      exact ⟨by rw [HE.out]; rfl, B2⟩
     | true =>
      obtain ⟨dg, hdg⟩ : ∃ b, dscB s = b := ⟨_, rfl⟩
      have hD := HD.out w2 (HS.out.ext B2)
      rw [hdg] at hD
      have HD1 := Lib.hid hD
      have HDG := Lib.hid hdg
      clear hD hdg
      go_wp2_with fail
      refine HD1.out.mono ?_
      rintro e3 w3 ⟨rfl, hb3⟩
      have B3 := B2.trans (hb3.mono B2.size)
      replace kX := kX.below_ hb3 zX
      clear q0 q1 q2 q3 q4 q5 q6 q7 q8 q9 q10 hb3 zX HD1
      cases dg with
      | false =>
       have HE : Hid (R = 3) := HB3.out fun h => by have := (HAG.out.1 h).2.2.1; have h2 := HDG.out; unfold dscB at h2; exact of_decide_eq_false h2 this
       go_wp2_with fail
       go_ret
       exact ⟨by rw [HE.out]; rfl, B3⟩
      | true =>
       have HDS : Hid (s.desc.length = s.dk.jobs.length ∧ (tknP s.po).length = s.desc.length ∧ ∀ d ∈ tknP s.po, d ∈ s.desc) := by show _ ∧ _; exact of_decide_eq_true HDG.out
       go_wp2_with fail
       clear c1' c2' c3'
       go_loopw [4] (fun i wr => ∃ k : Nat, k ≤ s.rd.length ∧ i = .int .i64 k ∧ Hid (∀ v ∈ s.rd.take k, 0 ≤ v.2.2 ∧ v.2.2 ≤ 8) ∧ Below w3.heap.size w3 wr) (fun i _ => s.rd.length - (intOf i).toNat)
       case atStart => exact ⟨0, by omega, rfl, fun x hx => by simp at hx, Below.refl _ _⟩
       case round =>
        obtain ⟨k, hk, rfl, HK, hbw⟩ := hrel
        have b3 := B3.trans (hbw.mono B3.size)
        replace kX := kX.below_ hbw kX.lt
        have zX := kX.lt
        obtain ⟨-, -, -, -, q4, -⟩ := zc11 kX
        by_cases hlt : k < s.rd.length
        ·have i1 : (k : Int) < s.rd.length := by omega
         obtain ⟨b, off, x, rfl, hbl, hx, hc⟩ := (HS.out.r3.ext b3).at_ hlt
         have e0 : wr.cell? ⟨b, off + k * 3 + 2, none⟩ = some (.int .i64 x.2.2) := hc 2 _ rfl
         have HX := Lib.hid hx
         have HIN := Lib.hid (List.mem_of_getElem? hx)
         clear hc hx
         cases d1 : decide (x.2.2 < 0) with
         | true =>
          have HE : Hid (R = 3) := HB3.out fun h => by have := (HAG.out.1 h).2.2.2.1 x HIN.out; simp at d1; omega
          go_wp2_with fail
          go_ret
          exact ⟨by rw [HE.out]; rfl, b3⟩
         | false =>
          cases d2 : decide (x.2.2 > 8) with
          | true =>
           have HE : Hid (R = 3) := HB3.out fun h => by have := (HAG.out.1 h).2.2.2.1 x HIN.out; simp at d2; omega
           go_wp2_with fail
           go_ret
           exact ⟨by rw [HE.out]; rfl, b3⟩
          | false =>
           have HK2 : Hid (∀ v ∈ s.rd.take (k + 1), 0 ≤ v.2.2 ∧ v.2.2 ≤ 8) := by
            show ∀ v ∈ _, _
            rw [List.take_add_one, HX.out]
            intro v hv
            rcases List.mem_append.1 hv with hv | hv
            ·exact HK.out v hv
            ·simp at hv d1 d2; rw [hv]; omega
           go_wp2_with fail
           go_roundw
           case rel => exact ⟨k + 1, by omega, by go_num, HK2.out, hbw⟩
           case measure => simp [intOf]; omega
        ·have HRD : Hid (∀ v ∈ s.rd, 0 ≤ v.2.2 ∧ v.2.2 ≤ 8) := by have := HK.out; rwa [List.take_of_length_le (by omega)] at this
         obtain ⟨wo, rfl⟩ : ∃ wo, wo = wr := ⟨_, rfl⟩
         go_wp2_with fail
         clear q4 zX hbw HK
         go_loopw [5] (fun i wr => ∃ q : Nat, 1 ≤ q ∧ q ≤ 9 ∧ i = .int .i64 q ∧ Hid (∀ p : Int, 1 ≤ p → p < q → tmsL (s.wr ++ s.rd) p ≤ 1) ∧ Below wo.heap.size wo wr) (fun i _ => 9 - (intOf i).toNat)
         case atStart => exact ⟨1, by omega, by omega, rfl, fun p h1 h2 => by omega, Below.refl _ _⟩
         case round =>
          obtain ⟨q, hq1, hq, rfl, HQ, hbw⟩ := hrel
          have B4 := b3
          have b3 := b3.trans (hbw.mono b3.size)
          replace kX := kX.below_ hbw kX.lt
          have zX := kX.lt
          by_cases hlt2 : q ≤ 8
          ·have i2 : (q : Int) ≤ 8 := by omega
           obtain ⟨q0, q1, q2, q3, q4, q5, q6, q7, q8, q9, q10⟩ := zc11 kX
           obtain ⟨m, hm⟩ : ∃ m : Nat, tmsL (s.wr ++ s.rd) q = m := ⟨_, rfl⟩
           have hT := rwTimes_any ⟨a0, c0, a1, c1, a2, c2, a3, c3, a4, c4, a5, c5, a6, c6, a7, c7⟩ s q wr (HS.out.ext b3) HF.out
           rw [hm] at hT
           have HT1 := Lib.hid hT
           have HMM := Lib.hid hm
           clear hT hm
           unfold swV swC at HT1
           go_wp2_with fail
           refine HT1.out.mono ?_
           rintro e4 w4 ⟨rfl, hb4⟩
           cases d3 : decide ((m : Int) > 1) with
           | true =>
            have HE : Hid (R = 3) := HB3.out fun h => by have := (HAG.out.1 h).2.2.2.2.1 q (by omega) (by omega); rw [HMM.out] at this; simp at d3; omega
            go_wp2_with fail
            go_ret
            exact ⟨by rw [HE.out]; rfl, b3.trans (hb4.mono b3.size)⟩
           | false =>
            have HQ2 : Hid (∀ p : Int, 1 ≤ p → p < ((q + 1 : Nat) : Int) → tmsL (s.wr ++ s.rd) p ≤ 1) := fun p h1 h2 => by
             by_cases e : p = q
             ·rw [e, HMM.out]; simp at d3; omega
             ·exact HQ.out p h1 (by omega)
            go_wp2_with fail
            go_roundw
            case rel => exact ⟨q + 1, by omega, by omega, by go_num, HQ2.out, hbw.trans (hb4.mono hbw.size)⟩
            case measure => simp [intOf]; omega
          ·have HTM : Hid (∀ p : Int, 1 ≤ p → p ≤ 8 → tmsL (s.wr ++ s.rd) p ≤ 1) := fun p h1 h2 => HQ.out p h1 (by omega)
           have i2 : ¬ (q : Int) ≤ 8 := by omega
           obtain ⟨wu, rfl⟩ : ∃ wu, wu = wr := ⟨_, rfl⟩
           go_wp2_with fail
           clear hbw HQ zX B4
           have B4 := b3
           clear b3
           go_loopw [6] (fun i wr => ∃ k : Nat, k ≤ s.sl.refs.length ∧ i = .int .i64 k ∧ Hid (∀ j : Nat, j < k → bsyT s.sl j = decide (0 ≤ jobI s.dk.jobs j) ∧ ¬ (wtdL (s.wr ++ s.rd) j = true ∧ refT s.sl j = 0)) ∧ Below wu.heap.size wu wr) (fun i _ => s.sl.refs.length - (intOf i).toNat)
           case atStart => exact ⟨0, by omega, rfl, fun j hj => by omega, Below.refl _ _⟩
           case round =>
            obtain ⟨k, hk, rfl, HK, hbw⟩ := hrel
            have b3 := B4.trans (hbw.mono B4.size)
            replace kX := kX.below_ hbw kX.lt
            have zX := kX.lt
            obtain ⟨-, q1, -⟩ := zc11 kX
            by_cases hlt3 : k < s.sl.refs.length
            ·have i3 : (k : Int) < s.sl.refs.length := by omega
             have i4 : (k : Int) < s.sl.busy.length := by have := HT.out.blen; omega
             obtain ⟨b0, o0, x0, hA0, zA, hx0, hc0⟩ := (HS.out.r0.ext b3).at_ hlt3
             obtain ⟨b1, o1, x1, hA1, zB, hx1, hc1⟩ := (HS.out.r1.ext b3).at_ (k := k) (by have := HT.out.blen; omega)
             dsimp only at hA0 hA1
             subst hA0 hA1
             have ca : wr.cell? ⟨b0, o0 + k, none⟩ = some (.int .i64 x0) := by simpa [show intE.sz = 1 from rfl] using hc0 0 (.int .i64 x0) rfl
             have cb : wr.cell? ⟨b1, o1 + k, none⟩ = some (.bool x1) := by simpa [show boolE.sz = 1 from rfl] using hc1 0 (.bool x1) rfl
             have HX0 : Hid (refT s.sl k = x0) := by show _ = _; unfold refT; rw [List.getD_eq_getElem?_getD, hx0]; rfl
             have HX1 : Hid (bsyT s.sl k = x1) := by show _ = _; unfold bsyT; rw [List.getD_eq_getElem?_getD, hx1]; rfl
             clear hx0 hx1 hc0 hc1
             obtain ⟨jv, hjv⟩ : ∃ j, jobI s.dk.jobs k = j := ⟨_, rfl⟩
             obtain ⟨wv, hwv⟩ : ∃ v, wtdL (s.wr ++ s.rd) k = v := ⟨_, rfl⟩
             have HJ : Hid (∀ V, Below wr.heap.size wr V → Calls Tryz.prog 68 #[.agg (zkx s (some ⟨b0, o0, none⟩) c0 (some ⟨b1, o1, none⟩) c1 a2 c2 a3 c3 a4 c4 a5 c5 a6 c6 a7 c7).toArray, .int .i64 k] V fun e w' => e = .returned (.int .i64 jv) ∧ Below V.heap.size V w') := by
              show ∀ V, _
              intro V hV
              rw [← hjv]
              exact rwJob_any ⟨some ⟨b0, o0, none⟩, c0, some ⟨b1, o1, none⟩, c1, a2, c2, a3, c3, a4, c4, a5, c5, a6, c6, a7, c7⟩ s k V ((HS.out.ext b3).r6.ext hV) HF.out.f6
             have HW : Hid (∀ V, Below wr.heap.size wr V → Calls Tryz.prog 69 #[.agg (zkx s (some ⟨b0, o0, none⟩) c0 (some ⟨b1, o1, none⟩) c1 a2 c2 a3 c3 a4 c4 a5 c5 a6 c6 a7 c7).toArray, .int .i64 k] V fun e w' => e = .returned (.bool wv) ∧ Below V.heap.size V w') := by
              show ∀ V, _
              intro V hV
              rw [← hwv]
              exact rwWaited_any ⟨some ⟨b0, o0, none⟩, c0, some ⟨b1, o1, none⟩, c1, a2, c2, a3, c3, a4, c4, a5, c5, a6, c6, a7, c7⟩ s k V ((HS.out.ext b3).ext hV) HF.out
             have HJV := Lib.hid hjv
             have HWV := Lib.hid hwv
             clear hjv hwv
             obtain ⟨g, hg⟩ : ∃ g, decide (jv ≥ 0) = g := ⟨_, rfl⟩
             have HGE := Lib.hid hg
             have hg2 : decide (0 ≤ jv) = g := hg
             obtain ⟨ne, hne⟩ : ∃ b, (x1 != g) = b := ⟨_, rfl⟩
             have HNE := Lib.hid hne
             go_wp2_with fail
             cases ne with
             | true =>
              have HE : Hid (R = 3) := HB3.out fun h => by
               have := ((HAG.out.1 h).2.2.2.2.2 k (by omega)).1
               rw [HX1.out, HJV.out] at this
               have h2 := HNE.out
               rw [← HGE.out, this] at h2
               simp at h2
              refine wp_region_chain [.is ?fca0, .is ?fca1, .is ?fca2, .is ?fca3, .is ?fca4, .is ?fca5, .is ?fca6, .is ?fca7, .is (.int .i64 jv), .is (.bool g), .is (.bool true), .is ?fca11, .is undef, .is undef, .is undef, .is undef, .is undef, .is undef, .is undef, .is undef, .is undef, .is undef, .is undef, .is undef, .is ?fca24] (by kernel_rfl) (by kernel_rfl) (by kernel_rfl) (lasts_is (lasts_is (lasts_is (lasts_is (lasts_is (lasts_is (lasts_is (lasts_is (lasts_is (lasts_is (lasts_is (lasts_is (lasts_is (lasts_is (lasts_is (lasts_is (lasts_is (lasts_is (lasts_is (lasts_is (lasts_is (lasts_is (lasts_is (lasts_is (lasts_is lasts_nil))))))))))))))))))))))))) (fun W0 hb0 hz0 => ?_)
              rotate_left 10
              have kW := kX.below_ hb0 kX.lt
              have zW := kW.lt
              have ca := cell_keep hb0 ca zA
              have cb := cell_keep hb0 cb zB
              have zA : b0 < W0.heap.size := Nat.lt_of_lt_of_le zA hb0.size
              have zB : b1 < W0.heap.size := Nat.lt_of_lt_of_le zB hb0.size
              obtain ⟨p0, p1, p2, p3, p4, p5, p6, p7, p8, p9, p10⟩ := zc11 kW
              refine zot ?_
              refine zot ?_
              refine zoT (fun w hbw hd => ?_) ?_
              ·have r2 := cell_keep hbw p2 zW
               exact zgs
              refine zot ?_
              refine zot ?_
              refine zoT (fun w hbw hd => ?_) ?_
              ·have rb := cell_keep hbw cb zB
               exact zgs
              refine zoT (fun w hbw hd => ?_) ?_
              ·have r0 := cell_keep hbw p0 zW
               have r1 := cell_keep hbw p1 zW
               have r2 := cell_keep hbw p2 zW
               have r3 := cell_keep hbw p3 zW
               have r4 := cell_keep hbw p4 zW
               have r5 := cell_keep hbw p5 zW
               have r6 := cell_keep hbw p6 zW
               have r7 := cell_keep hbw p7 zW
               have r8 := cell_keep hbw p8 zW
               have r9 := cell_keep hbw p9 zW
               have r10 := cell_keep hbw p10 zW
               exact zgs
              refine zot ?_
              refine chain_is ?sca8 ?rca8
              case sca8 =>
               intro w hbw hd K Q' hK
               clear hd
               go_simp
               refine (HJ.out w (hb0.trans (hbw.mono hb0.size))).mono ?_
               rintro e y ⟨rfl, hy⟩
               go_wp2_with fail
               refine hK.out (.int .i64 jv) _ _ ?_ ?_ rfl
               ·(simp only [Act.put, zy0, zy1, zy2, List.nil_append, List.cons_append])
               ·exact zbm
              (try simp only [Act.put, zy0, zy1, zy2, List.nil_append, List.cons_append])
              refine zot ?_
              refine zoT (fun w hbw hd => ?_) ?_
              ·clear hd
               go_simp
               first | done | simpa using HNE.out
              refine zot ?_
              refine zou ?_
              refine zou ?_
              refine zou ?_
              refine zou ?_
              refine zou ?_
              refine zou ?_
              refine zou ?_
              refine zou ?_
              refine zou ?_
              refine zou ?_
              refine zou ?_
              refine zou ?_
              refine zot ?_
              refine chain_end (fun wz hbz hd => ?_)
              go_wp2_with fail
              go_ret
              exact ⟨by rw [HE.out]; rfl, b3.trans ((hb0.trans (hbz.mono hb0.size)).mono b3.size)⟩
             | false =>
              cases wv with
              | false =>
               have HK2 : Hid (∀ j : Nat, j < k + 1 → bsyT s.sl j = decide (0 ≤ jobI s.dk.jobs j) ∧ ¬ (wtdL (s.wr ++ s.rd) j = true ∧ refT s.sl j = 0)) := fun j hj => by
                by_cases e : j = k
                ·rw [e, HX1.out, HJV.out, HWV.out]
                 exact ⟨by have h2 := HNE.out; rw [← HGE.out] at h2; simpa using h2, fun h => by cases h.1⟩
                ·exact HK.out j (by omega)
               refine wp_region_chain [.is ?fcb0, .is ?fcb1, .is ?fcb2, .is ?fcb3, .is ?fcb4, .is ?fcb5, .is ?fcb6, .is ?fcb7, .is (.int .i64 jv), .is (.bool g), .is (.bool false), .is ?fcb11, .is ?fcb12, .is ?fcb13, .is (.bool false), .is ?fcb15, .is undef, .is undef, .is undef, .is undef, .is undef, .is undef, .is undef, .is ?fcb23, .is ?fcb24] (by kernel_rfl) (by kernel_rfl) (by kernel_rfl) (lasts_is (lasts_is (lasts_is (lasts_is (lasts_is (lasts_is (lasts_is (lasts_is (lasts_is (lasts_is (lasts_is (lasts_is (lasts_is (lasts_is (lasts_is (lasts_is (lasts_is (lasts_is (lasts_is (lasts_is (lasts_is (lasts_is (lasts_is (lasts_is (lasts_is lasts_nil))))))))))))))))))))))))) (fun W0 hb0 hz0 => ?_)
               rotate_left 14
               have kW := kX.below_ hb0 kX.lt
               have zW := kW.lt
               have ca := cell_keep hb0 ca zA
               have cb := cell_keep hb0 cb zB
               have zA : b0 < W0.heap.size := Nat.lt_of_lt_of_le zA hb0.size
               have zB : b1 < W0.heap.size := Nat.lt_of_lt_of_le zB hb0.size
               obtain ⟨p0, p1, p2, p3, p4, p5, p6, p7, p8, p9, p10⟩ := zc11 kW
               refine zot ?_
               refine zot ?_
               refine zoT (fun w hbw hd => ?_) ?_
               ·have r2 := cell_keep hbw p2 zW
                exact zgs
               refine zot ?_
               refine zot ?_
               refine zoT (fun w hbw hd => ?_) ?_
               ·have rb := cell_keep hbw cb zB
                exact zgs
               refine zoT (fun w hbw hd => ?_) ?_
               ·have r0 := cell_keep hbw p0 zW
                have r1 := cell_keep hbw p1 zW
                have r2 := cell_keep hbw p2 zW
                have r3 := cell_keep hbw p3 zW
                have r4 := cell_keep hbw p4 zW
                have r5 := cell_keep hbw p5 zW
                have r6 := cell_keep hbw p6 zW
                have r7 := cell_keep hbw p7 zW
                have r8 := cell_keep hbw p8 zW
                have r9 := cell_keep hbw p9 zW
                have r10 := cell_keep hbw p10 zW
                exact zgs
               refine zot ?_
               refine chain_is ?scb8 ?rcb8
               case scb8 =>
                intro w hbw hd K Q' hK
                clear hd
                go_simp
                refine (HJ.out w (hb0.trans (hbw.mono hb0.size))).mono ?_
                rintro e y ⟨rfl, hy⟩
                go_wp2_with fail
                refine hK.out (.int .i64 jv) _ _ ?_ ?_ rfl
                ·(simp only [Act.put, zy0, zy1, zy2, List.nil_append, List.cons_append])
                ·exact zbm
               (try simp only [Act.put, zy0, zy1, zy2, List.nil_append, List.cons_append])
               refine zot ?_
               refine zoT (fun w hbw hd => ?_) ?_
               ·clear hd
                go_simp
                first | done | simpa using HNE.out
               refine zot ?_
               refine zoT (fun w hbw hd => ?_) ?_
               ·have r0 := cell_keep hbw p0 zW
                have r1 := cell_keep hbw p1 zW
                have r2 := cell_keep hbw p2 zW
                have r3 := cell_keep hbw p3 zW
                have r4 := cell_keep hbw p4 zW
                have r5 := cell_keep hbw p5 zW
                have r6 := cell_keep hbw p6 zW
                have r7 := cell_keep hbw p7 zW
                have r8 := cell_keep hbw p8 zW
                have r9 := cell_keep hbw p9 zW
                have r10 := cell_keep hbw p10 zW
                exact zgs
               refine zot ?_
               refine chain_is ?scb14 ?rcb14
               case scb14 =>
                intro w hbw hd K Q' hK
                clear hd
                go_simp
                refine (HW.out w (hb0.trans (hbw.mono hb0.size))).mono ?_
                rintro e y ⟨rfl, hy⟩
                go_wp2_with fail
                refine hK.out (.bool false) _ _ ?_ ?_ rfl
                ·(simp only [Act.put, zy0, zy1, zy2, List.nil_append, List.cons_append])
                ·exact zbm
               (try simp only [Act.put, zy0, zy1, zy2, List.nil_append, List.cons_append])
               refine zot ?_
               refine zou ?_
               refine zou ?_
               refine zou ?_
               refine zou ?_
               refine zou ?_
               refine zou ?_
               refine zou ?_
               refine zot ?_
               refine zot ?_
               refine chain_end (fun wz hbz hd => ?_)
               go_wp2_with fail
               go_roundw
               case rel => exact ⟨k + 1, by omega, by go_num, HK2.out, hbw.trans ((hb0.trans (hbz.mono hb0.size)).mono hbw.size)⟩
               case measure => simp [intOf]; omega
              | true =>
               cases z0' : (x0 == 0) with
               | true =>
                have HE : Hid (R = 3) := HB3.out fun h => by
                 have := ((HAG.out.1 h).2.2.2.2.2 k (by omega)).2
                 rw [HWV.out, HX0.out] at this
                 exact this ⟨rfl, by simpa using z0'⟩
                refine wp_region_chain [.is ?fcc0, .is ?fcc1, .is ?fcc2, .is ?fcc3, .is ?fcc4, .is ?fcc5, .is ?fcc6, .is ?fcc7, .is (.int .i64 jv), .is (.bool g), .is (.bool false), .is ?fcc11, .is ?fcc12, .is ?fcc13, .is (.bool true), .is ?fcc15, .is ?fcc16, .is ?fcc17, .is ?fcc18, .is ?fcc19, .is ?fcc20, .is ?fcc21, .is (.bool true), .is ?fcc23, .is ?fcc24] (by kernel_rfl) (by kernel_rfl) (by kernel_rfl) (lasts_is (lasts_is (lasts_is (lasts_is (lasts_is (lasts_is (lasts_is (lasts_is (lasts_is (lasts_is (lasts_is (lasts_is (lasts_is (lasts_is (lasts_is (lasts_is (lasts_is (lasts_is (lasts_is (lasts_is (lasts_is (lasts_is (lasts_is (lasts_is (lasts_is lasts_nil))))))))))))))))))))))))) (fun W0 hb0 hz0 => ?_)
                rotate_left 20
                have kW := kX.below_ hb0 kX.lt
                have zW := kW.lt
                have ca := cell_keep hb0 ca zA
                have cb := cell_keep hb0 cb zB
                have zA : b0 < W0.heap.size := Nat.lt_of_lt_of_le zA hb0.size
                have zB : b1 < W0.heap.size := Nat.lt_of_lt_of_le zB hb0.size
                obtain ⟨p0, p1, p2, p3, p4, p5, p6, p7, p8, p9, p10⟩ := zc11 kW
                refine zot ?_
                refine zot ?_
                refine zoT (fun w hbw hd => ?_) ?_
                ·have r2 := cell_keep hbw p2 zW
                 exact zgs
                refine zot ?_
                refine zot ?_
                refine zoT (fun w hbw hd => ?_) ?_
                ·have rb := cell_keep hbw cb zB
                 exact zgs
                refine zoT (fun w hbw hd => ?_) ?_
                ·have r0 := cell_keep hbw p0 zW
                 have r1 := cell_keep hbw p1 zW
                 have r2 := cell_keep hbw p2 zW
                 have r3 := cell_keep hbw p3 zW
                 have r4 := cell_keep hbw p4 zW
                 have r5 := cell_keep hbw p5 zW
                 have r6 := cell_keep hbw p6 zW
                 have r7 := cell_keep hbw p7 zW
                 have r8 := cell_keep hbw p8 zW
                 have r9 := cell_keep hbw p9 zW
                 have r10 := cell_keep hbw p10 zW
                 exact zgs
                refine zot ?_
                refine chain_is ?scc8 ?rcc8
                case scc8 =>
                 intro w hbw hd K Q' hK
                 clear hd
                 go_simp
                 refine (HJ.out w (hb0.trans (hbw.mono hb0.size))).mono ?_
                 rintro e y ⟨rfl, hy⟩
                 go_wp2_with fail
                 refine hK.out (.int .i64 jv) _ _ ?_ ?_ rfl
                 ·(simp only [Act.put, zy0, zy1, zy2, List.nil_append, List.cons_append])
                 ·exact zbm
                (try simp only [Act.put, zy0, zy1, zy2, List.nil_append, List.cons_append])
                refine zot ?_
                refine zoT (fun w hbw hd => ?_) ?_
                ·clear hd
                 go_simp
                 first | done | simpa using HNE.out
                refine zot ?_
                refine zoT (fun w hbw hd => ?_) ?_
                ·have r0 := cell_keep hbw p0 zW
                 have r1 := cell_keep hbw p1 zW
                 have r2 := cell_keep hbw p2 zW
                 have r3 := cell_keep hbw p3 zW
                 have r4 := cell_keep hbw p4 zW
                 have r5 := cell_keep hbw p5 zW
                 have r6 := cell_keep hbw p6 zW
                 have r7 := cell_keep hbw p7 zW
                 have r8 := cell_keep hbw p8 zW
                 have r9 := cell_keep hbw p9 zW
                 have r10 := cell_keep hbw p10 zW
                 exact zgs
                refine zot ?_
                refine chain_is ?scc14 ?rcc14
                case scc14 =>
                 intro w hbw hd K Q' hK
                 clear hd
                 go_simp
                 refine (HW.out w (hb0.trans (hbw.mono hb0.size))).mono ?_
                 rintro e y ⟨rfl, hy⟩
                 go_wp2_with fail
                 refine hK.out (.bool true) _ _ ?_ ?_ rfl
                 ·(simp only [Act.put, zy0, zy1, zy2, List.nil_append, List.cons_append])
                 ·exact zbm
                (try simp only [Act.put, zy0, zy1, zy2, List.nil_append, List.cons_append])
                refine zot ?_
                refine zot ?_
                refine zot ?_
                refine zoT (fun w hbw hd => ?_) ?_
                ·have r1 := cell_keep hbw p1 zW
                 exact zgs
                refine zot ?_
                refine zot ?_
                refine zoT (fun w hbw hd => ?_) ?_
                ·have ra := cell_keep hbw ca zA
                 exact zgs
                refine zot ?_
                refine zot ?_
                refine zot ?_
                refine chain_end (fun wz hbz hd => ?_)
                go_wp2_with fail
                go_ret
                exact ⟨by rw [HE.out]; rfl, b3.trans ((hb0.trans (hbz.mono hb0.size)).mono b3.size)⟩
               | false =>
                have HK2 : Hid (∀ j : Nat, j < k + 1 → bsyT s.sl j = decide (0 ≤ jobI s.dk.jobs j) ∧ ¬ (wtdL (s.wr ++ s.rd) j = true ∧ refT s.sl j = 0)) := fun j hj => by
                 by_cases e : j = k
                 ·rw [e, HX1.out, HJV.out, HWV.out, HX0.out]
                  exact ⟨by have h2 := HNE.out; rw [← HGE.out] at h2; simpa using h2, fun h => by have := h.2; simp [this] at z0'⟩
                 ·exact HK.out j (by omega)
                refine wp_region_chain [.is ?fcd0, .is ?fcd1, .is ?fcd2, .is ?fcd3, .is ?fcd4, .is ?fcd5, .is ?fcd6, .is ?fcd7, .is (.int .i64 jv), .is (.bool g), .is (.bool false), .is ?fcd11, .is ?fcd12, .is ?fcd13, .is (.bool true), .is ?fcd15, .is ?fcd16, .is ?fcd17, .is ?fcd18, .is ?fcd19, .is ?fcd20, .is ?fcd21, .is (.bool false), .is ?fcd23, .is ?fcd24] (by kernel_rfl) (by kernel_rfl) (by kernel_rfl) (lasts_is (lasts_is (lasts_is (lasts_is (lasts_is (lasts_is (lasts_is (lasts_is (lasts_is (lasts_is (lasts_is (lasts_is (lasts_is (lasts_is (lasts_is (lasts_is (lasts_is (lasts_is (lasts_is (lasts_is (lasts_is (lasts_is (lasts_is (lasts_is (lasts_is lasts_nil))))))))))))))))))))))))) (fun W0 hb0 hz0 => ?_)
                rotate_left 20
                have kW := kX.below_ hb0 kX.lt
                have zW := kW.lt
                have ca := cell_keep hb0 ca zA
                have cb := cell_keep hb0 cb zB
                have zA : b0 < W0.heap.size := Nat.lt_of_lt_of_le zA hb0.size
                have zB : b1 < W0.heap.size := Nat.lt_of_lt_of_le zB hb0.size
                obtain ⟨p0, p1, p2, p3, p4, p5, p6, p7, p8, p9, p10⟩ := zc11 kW
                refine zot ?_
                refine zot ?_
                refine zoT (fun w hbw hd => ?_) ?_
                ·have r2 := cell_keep hbw p2 zW
                 exact zgs
                refine zot ?_
                refine zot ?_
                refine zoT (fun w hbw hd => ?_) ?_
                ·have rb := cell_keep hbw cb zB
                 exact zgs
                refine zoT (fun w hbw hd => ?_) ?_
                ·have r0 := cell_keep hbw p0 zW
                 have r1 := cell_keep hbw p1 zW
                 have r2 := cell_keep hbw p2 zW
                 have r3 := cell_keep hbw p3 zW
                 have r4 := cell_keep hbw p4 zW
                 have r5 := cell_keep hbw p5 zW
                 have r6 := cell_keep hbw p6 zW
                 have r7 := cell_keep hbw p7 zW
                 have r8 := cell_keep hbw p8 zW
                 have r9 := cell_keep hbw p9 zW
                 have r10 := cell_keep hbw p10 zW
                 exact zgs
                refine zot ?_
                refine chain_is ?scd8 ?rcd8
                case scd8 =>
                 intro w hbw hd K Q' hK
                 clear hd
                 go_simp
                 refine (HJ.out w (hb0.trans (hbw.mono hb0.size))).mono ?_
                 rintro e y ⟨rfl, hy⟩
                 go_wp2_with fail
                 refine hK.out (.int .i64 jv) _ _ ?_ ?_ rfl
                 ·(simp only [Act.put, zy0, zy1, zy2, List.nil_append, List.cons_append])
                 ·exact zbm
                (try simp only [Act.put, zy0, zy1, zy2, List.nil_append, List.cons_append])
                refine zot ?_
                refine zoT (fun w hbw hd => ?_) ?_
                ·clear hd
                 go_simp
                 first | done | simpa using HNE.out
                refine zot ?_
                refine zoT (fun w hbw hd => ?_) ?_
                ·have r0 := cell_keep hbw p0 zW
                 have r1 := cell_keep hbw p1 zW
                 have r2 := cell_keep hbw p2 zW
                 have r3 := cell_keep hbw p3 zW
                 have r4 := cell_keep hbw p4 zW
                 have r5 := cell_keep hbw p5 zW
                 have r6 := cell_keep hbw p6 zW
                 have r7 := cell_keep hbw p7 zW
                 have r8 := cell_keep hbw p8 zW
                 have r9 := cell_keep hbw p9 zW
                 have r10 := cell_keep hbw p10 zW
                 exact zgs
                refine zot ?_
                refine chain_is ?scd14 ?rcd14
                case scd14 =>
                 intro w hbw hd K Q' hK
                 clear hd
                 go_simp
                 refine (HW.out w (hb0.trans (hbw.mono hb0.size))).mono ?_
                 rintro e y ⟨rfl, hy⟩
                 go_wp2_with fail
                 refine hK.out (.bool true) _ _ ?_ ?_ rfl
                 ·(simp only [Act.put, zy0, zy1, zy2, List.nil_append, List.cons_append])
                 ·exact zbm
                (try simp only [Act.put, zy0, zy1, zy2, List.nil_append, List.cons_append])
                refine zot ?_
                refine zot ?_
                refine zot ?_
                refine zoT (fun w hbw hd => ?_) ?_
                ·have r1 := cell_keep hbw p1 zW
                 exact zgs
                refine zot ?_
                refine zot ?_
                refine zoT (fun w hbw hd => ?_) ?_
                ·have ra := cell_keep hbw ca zA
                 exact zgs
                refine zot ?_
                refine zot ?_
                refine zot ?_
                refine chain_end (fun wz hbz hd => ?_)
                go_wp2_with fail
                go_roundw
                case rel => exact ⟨k + 1, by omega, by go_num, HK2.out, hbw.trans ((hb0.trans (hbz.mono hb0.size)).mono hbw.size)⟩
                case measure => simp [intOf]; omega
            ·have HE : Hid (R = 0) := HG0.out (HAG.out.2 ⟨HQ1.out, HMG.out, HDS.out, HRD.out, HTM.out, fun j hj => HK.out j (by omega)⟩)
             go_wp2_with fail
             go_ret
             exact ⟨by rw [HE.out]; rfl, b3⟩
 ·have HE : Hid (R = z) := by show _ = _; rw [hRz, if_pos z0]
  have zb : (z != 0) = true := by simpa using z0
  clear z0 hz hRz hR
  go_enter Tryz.func19, Tryz.ntmps19
  go_wp2_with fail
  (try rw [hX])
  clear hX
  refine (HP.out X (HS.out.ext BX)).mono ?_
  rintro e1 w1 ⟨rfl, hb1⟩
  go_wp2_with fail
  go_ret
  exact ⟨by rw [HE.out]; rfl, BX.trans (hb1.mono BX.size)⟩
theorem okW_two (s f : Int) : okW (s, f, 0) = true ↔ (0 ≤ s ∧ s < 256) ∧ (0 ≤ f ∧ f < 256) := by rw [okW_iff]; simp
theorem add_ask {l : List Wr} {s f z : Int} (h : askS l s f 1 = z) (hz : z ≠ 0) : addS l s f = ([], z) := by
 unfold askS at h
 unfold addS
 by_cases h0 : (chkS l).1 ≠ 0
 ·rw [if_pos h0] at h
  rw [if_pos h0, h]
 ·rw [if_neg h0] at h
  rw [if_neg h0]
  by_cases h1 : (0 ≤ s ∧ s < 256) ∧ (0 ≤ f ∧ f < 256)
  ·rw [if_pos ⟨(okW_two s f).2 h1, by decide⟩] at h
   exact absurd h.symm hz
  ·rw [if_neg (fun h => h1 ((okW_two s f).1 h.1))] at h
   rw [if_neg h1, h]
theorem add_go {l : List Wr} {s f : Int} (h : askS l s f 1 = 0) : addS l s f = (if hit l (s, f, 0) then ([], 7) else if 16 ≤ l.length then ([], 5) else (l ++ [(s, f, 0)], 0)) ∧ l.length ≤ 16 := by
 unfold askS at h
 unfold addS
 by_cases h0 : (chkS l).1 ≠ 0
 ·rw [if_pos h0] at h
  exact absurd h h0
 ·rw [if_neg h0] at h
  by_cases h1 : (0 ≤ s ∧ s < 256) ∧ (0 ≤ f ∧ f < 256)
  ·rw [if_neg h0, if_pos h1]
   exact ⟨rfl, (chkS_ok.1 (by simpa using h0)).1⟩
  ·rw [if_neg (fun h => h1 ((okW_two s f).1 h.1))] at h
   cases h
theorem rwHinders_any (L : Lay) (s : Swp) (w : World) (h : SwR w L s) (hok : OkS s) : Calls Tryz.prog 47 #[swV L s] w (RiPost (hinW s) w) := by
 obtain ⟨a0, c0, a1, c1, a2, c2, a3, c3, a4, c4, a5, c5, a6, c6, a7, c7⟩ := L
 have HS := Lib.hid h
 have HOT := Lib.hid hok.sl
 obtain ⟨g1, hg1⟩ : ∃ b, ((s.wr.length : Int) == s.cap) = b := ⟨_, rfl⟩
 obtain ⟨g2, hg2⟩ : ∃ b, ((s.dk.jobs.length : Int) == s.dk.room) = b := ⟨_, rfl⟩
 obtain ⟨g3, hg3⟩ : ∃ b, (fstT s.sl).isNone = b := ⟨_, rfl⟩
 have HIN : Hid (hinW s = (if g1 = true then [(2 : Int)] else []) ++ (if g2 = true then [(3 : Int)] else []) ++ (if g3 = true then [(4 : Int)] else [])) := by
  show _ = _
  have h1 : (s.cap ≤ s.wr.length) ↔ g1 = true := by rw [← hg1, beq_iff_eq]; have := hok.few; omega
  have h2 : (s.dk.room ≤ s.dk.jobs.length) ↔ g2 = true := by rw [← hg2, beq_iff_eq]; have := hok.dk.few; omega
  unfold hinW
  simp only [h1, h2, hg3]
 obtain ⟨fe, hfe⟩ : ∃ n, (firT s.sl).2 = n := ⟨_, rfl⟩
 have HF2 := Lib.hid hfe
 have g3b : (fe != 0) = g3 := by
  rw [← hg3, ← hfe]
  unfold firT
  rw [if_neg (by rw [chkT_zero hok.sl]; simp)]
  cases fstT s.sl <;> simp
 clear h hok hfe hg3
 unfold swV swC
 obtain ⟨X, hX⟩ : ∃ X, w.alloc (.cells (zkx s a0 c0 a1 c1 a2 c2 a3 c3 a4 c4 a5 c5 a6 c6 a7 c7).toArray 35) = X := ⟨_, rfl⟩
 have kX : Blk X w.heap.size 35 (zkx s a0 c0 a1 c1 a2 c2 a3 c3 a4 c4 a5 c5 a6 c6 a7 c7).toArray := by rw [← hX]; exact zbk
 have BX : Below w.heap.size w X := by rw [← hX]; exact zbl
 have HO : Hid (OwnR intE X (w.heap.size + 1) (.slice none 0 0) []) := OwnR.nil
 go_enter Tryz.func47, Tryz.ntmps47
 have zkX := kX.lt
 obtain ⟨q0, -, -, q3, -⟩ := zc11 kX
 cases g1 with
 | false =>
  go_upto_region 4 with fail
  (try rw [hX])
  clear hX
  clear zkX q0 q3
  have zkX := kX.lt
  obtain ⟨-, -, -, -, -, -, -, q7, q8, -⟩ := zc11 kX
  cases g2 with
  | false =>
   go_upto_region 6 with fail
   clear zkX q7 q8
   have zkX := kX.lt
   obtain ⟨-, q1, q2, -⟩ := zc11 kX
   go_wp2_with fail
   refine (rsFirst_any a0 a1 c0 c1 s.sl X (HS.out.r0.ext BX) (HS.out.r1.ext BX) HOT.out).mono ?_
   rintro e2_ u22 ⟨rfl, hb2_⟩
   have BXL := zbt BX hb2_
   replace kX := kX.below_ hb2_ kX.lt
   have HOL : Hid (OwnR intE u22 (w.heap.size + 1) (.slice none 0 0) ([] : List Int)) := HO.out.ext hb2_
   clear hb2_
   clear zkX q1 q2
   rw [HF2.out]
   cases g3 with
   | false =>
    go_wp2_with fail
    go_ret
    have HE : hinW s = ([] : List Int) := by rw [HIN.out]; rfl
    exact ⟨none, 0, by rw [HE]; rfl, by rw [HE]; exact (HOL.out.sr).2, BXL⟩
   | true =>
    go_upto_region 9 with (at_builtin; refine wpList_ownR intE rfl (.tmp 34) (.tmp 35) _ rfl rfl _ (w.heap.size + 1) (by have := kX.lt; simp; omega) none 0 0 ([] : List Int) rfl (HOL.out.ext ((Below.refl _ _).alloc (Nat.le_refl _) _)) (some ⟨u22.heap.size, 0, none⟩) 1 1 [(4 : Int)] rfl (SR.of_blk (E := intE) (l := [(4 : Int)]) (t := 3) (Blk.new_ rfl rfl)) (by simp) (by simp) rfl rfl ?_; rw [show (([] : List Int) ++ [(4 : Int)]).length = 1 from rfl]; intro A2_2 c2_2 v2_2 hO_ hb_ hg_)
    have HOLA : Hid (OwnR intE v2_2 (w.heap.size + 1) (.slice A2_2 1 c2_2) ([(4 : Int)] : List Int)) := hO_
    have ha_ : Below w.heap.size u22 v2_2 := (Below.alloc (Below.refl _ _) BXL.size _).trans (hb_.mono (by omega))
    have BXLA : Below w.heap.size w v2_2 := BXL.trans ha_
    replace kX := (kX.alloc_ _).below_ hb_ (by omega)
    clear hO_ hb_ hg_ ha_
    go_wp2_with fail
    go_ret
    have HE : hinW s = ([(4 : Int)] : List Int) := by rw [HIN.out]; rfl
    exact ⟨A2_2, c2_2, by rw [HE]; rfl, by rw [HE]; exact (HOLA.out.sr).2, BXLA⟩
  | true =>
   go_upto_region 5 with fail
   clear zkX q7 q8
   go_upto_region 6 with (at_builtin; refine wpList_ownR intE rfl (.tmp 23) (.tmp 24) _ rfl rfl _ (w.heap.size + 1) (by have := kX.lt; simp; omega) none 0 0 ([] : List Int) rfl (HO.out.ext ((Below.refl _ _).alloc (Nat.le_refl _) _)) (some ⟨X.heap.size, 0, none⟩) 1 1 [(3 : Int)] rfl (SR.of_blk (E := intE) (l := [(3 : Int)]) (t := 3) (Blk.new_ rfl rfl)) (by simp) (by simp) rfl rfl ?_; rw [show (([] : List Int) ++ [(3 : Int)]).length = 1 from rfl]; intro A1_1 c1_1 v1_1 hO_ hb_ hg_)
   have HOA : Hid (OwnR intE v1_1 (w.heap.size + 1) (.slice A1_1 1 c1_1) ([(3 : Int)] : List Int)) := hO_
   have ha_ : Below w.heap.size X v1_1 := (Below.alloc (Below.refl _ _) BX.size _).trans (hb_.mono (by omega))
   have BXA : Below w.heap.size w v1_1 := BX.trans ha_
   replace kX := (kX.alloc_ _).below_ hb_ (by omega)
   clear hO_ hb_ hg_ ha_
   have zkX := kX.lt
   obtain ⟨-, q1, q2, -⟩ := zc11 kX
   go_wp2_with fail
   refine (rsFirst_any a0 a1 c0 c1 s.sl v1_1 (HS.out.r0.ext BXA) (HS.out.r1.ext BXA) HOT.out).mono ?_
   rintro e2_ u22 ⟨rfl, hb2_⟩
   have BXAL := zbt BXA hb2_
   replace kX := kX.below_ hb2_ kX.lt
   have HOAL : Hid (OwnR intE u22 (w.heap.size + 1) (.slice A1_1 1 c1_1) ([(3 : Int)] : List Int)) := HOA.out.ext hb2_
   clear hb2_
   clear zkX q1 q2
   rw [HF2.out]
   cases g3 with
   | false =>
    go_wp2_with fail
    go_ret
    have HE : hinW s = ([(3 : Int)] : List Int) := by rw [HIN.out]; rfl
    exact ⟨A1_1, c1_1, by rw [HE]; rfl, by rw [HE]; exact (HOAL.out.sr).2, BXAL⟩
   | true =>
    go_upto_region 9 with (at_builtin; refine wpList_ownR intE rfl (.tmp 34) (.tmp 35) _ rfl rfl _ (w.heap.size + 1) (by have := kX.lt; simp; omega) A1_1 c1_1 1 ([(3 : Int)] : List Int) rfl (HOAL.out.ext ((Below.refl _ _).alloc (Nat.le_refl _) _)) (some ⟨u22.heap.size, 0, none⟩) 1 1 [(4 : Int)] rfl (SR.of_blk (E := intE) (l := [(4 : Int)]) (t := 3) (Blk.new_ rfl rfl)) (by simp) (by simp) rfl rfl ?_; rw [show (([(3 : Int)] : List Int) ++ [(4 : Int)]).length = 2 from rfl]; intro A2_2 c2_2 v2_2 hO_ hb_ hg_)
    have HOALA : Hid (OwnR intE v2_2 (w.heap.size + 1) (.slice A2_2 2 c2_2) ([(3 : Int), (4 : Int)] : List Int)) := hO_
    have ha_ : Below w.heap.size u22 v2_2 := (Below.alloc (Below.refl _ _) BXAL.size _).trans (hb_.mono (by omega))
    have BXALA : Below w.heap.size w v2_2 := BXAL.trans ha_
    replace kX := (kX.alloc_ _).below_ hb_ (by omega)
    clear hO_ hb_ hg_ ha_
    go_wp2_with fail
    go_ret
    have HE : hinW s = ([(3 : Int), (4 : Int)] : List Int) := by rw [HIN.out]; rfl
    exact ⟨A2_2, c2_2, by rw [HE]; rfl, by rw [HE]; exact (HOALA.out.sr).2, BXALA⟩
 | true =>
  go_upto_region 3 with fail
  (try rw [hX])
  clear hX
  clear zkX q0 q3
  go_upto_region 4 with (at_builtin; refine wpList_ownR intE rfl (.tmp 12) (.tmp 13) _ rfl rfl _ (w.heap.size + 1) (by have := kX.lt; simp; omega) none 0 0 ([] : List Int) rfl (HO.out.ext ((Below.refl _ _).alloc (Nat.le_refl _) _)) (some ⟨X.heap.size, 0, none⟩) 1 1 [(2 : Int)] rfl (SR.of_blk (E := intE) (l := [(2 : Int)]) (t := 3) (Blk.new_ rfl rfl)) (by simp) (by simp) rfl rfl ?_; rw [show (([] : List Int) ++ [(2 : Int)]).length = 1 from rfl]; intro A0_0 c0_0 v0_0 hO_ hb_ hg_)
  have HOA : Hid (OwnR intE v0_0 (w.heap.size + 1) (.slice A0_0 1 c0_0) ([(2 : Int)] : List Int)) := hO_
  have ha_ : Below w.heap.size X v0_0 := (Below.alloc (Below.refl _ _) BX.size _).trans (hb_.mono (by omega))
  have BXA : Below w.heap.size w v0_0 := BX.trans ha_
  replace kX := (kX.alloc_ _).below_ hb_ (by omega)
  clear hO_ hb_ hg_ ha_
  have zkX := kX.lt
  obtain ⟨-, -, -, -, -, -, -, q7, q8, -⟩ := zc11 kX
  cases g2 with
  | false =>
   go_upto_region 6 with fail
   clear zkX q7 q8
   have zkX := kX.lt
   obtain ⟨-, q1, q2, -⟩ := zc11 kX
   go_wp2_with fail
   refine (rsFirst_any a0 a1 c0 c1 s.sl v0_0 (HS.out.r0.ext BXA) (HS.out.r1.ext BXA) HOT.out).mono ?_
   rintro e2_ u22 ⟨rfl, hb2_⟩
   have BXAL := zbt BXA hb2_
   replace kX := kX.below_ hb2_ kX.lt
   have HOAL : Hid (OwnR intE u22 (w.heap.size + 1) (.slice A0_0 1 c0_0) ([(2 : Int)] : List Int)) := HOA.out.ext hb2_
   clear hb2_
   clear zkX q1 q2
   rw [HF2.out]
   cases g3 with
   | false =>
    go_wp2_with fail
    go_ret
    have HE : hinW s = ([(2 : Int)] : List Int) := by rw [HIN.out]; rfl
    exact ⟨A0_0, c0_0, by rw [HE]; rfl, by rw [HE]; exact (HOAL.out.sr).2, BXAL⟩
   | true =>
    go_upto_region 9 with (at_builtin; refine wpList_ownR intE rfl (.tmp 34) (.tmp 35) _ rfl rfl _ (w.heap.size + 1) (by have := kX.lt; simp; omega) A0_0 c0_0 1 ([(2 : Int)] : List Int) rfl (HOAL.out.ext ((Below.refl _ _).alloc (Nat.le_refl _) _)) (some ⟨u22.heap.size, 0, none⟩) 1 1 [(4 : Int)] rfl (SR.of_blk (E := intE) (l := [(4 : Int)]) (t := 3) (Blk.new_ rfl rfl)) (by simp) (by simp) rfl rfl ?_; rw [show (([(2 : Int)] : List Int) ++ [(4 : Int)]).length = 2 from rfl]; intro A2_2 c2_2 v2_2 hO_ hb_ hg_)
    have HOALA : Hid (OwnR intE v2_2 (w.heap.size + 1) (.slice A2_2 2 c2_2) ([(2 : Int), (4 : Int)] : List Int)) := hO_
    have ha_ : Below w.heap.size u22 v2_2 := (Below.alloc (Below.refl _ _) BXAL.size _).trans (hb_.mono (by omega))
    have BXALA : Below w.heap.size w v2_2 := BXAL.trans ha_
    replace kX := (kX.alloc_ _).below_ hb_ (by omega)
    clear hO_ hb_ hg_ ha_
    go_wp2_with fail
    go_ret
    have HE : hinW s = ([(2 : Int), (4 : Int)] : List Int) := by rw [HIN.out]; rfl
    exact ⟨A2_2, c2_2, by rw [HE]; rfl, by rw [HE]; exact (HOALA.out.sr).2, BXALA⟩
  | true =>
   go_upto_region 5 with fail
   clear zkX q7 q8
   go_upto_region 6 with (at_builtin; refine wpList_ownR intE rfl (.tmp 23) (.tmp 24) _ rfl rfl _ (w.heap.size + 1) (by have := kX.lt; simp; omega) A0_0 c0_0 1 ([(2 : Int)] : List Int) rfl (HOA.out.ext ((Below.refl _ _).alloc (Nat.le_refl _) _)) (some ⟨v0_0.heap.size, 0, none⟩) 1 1 [(3 : Int)] rfl (SR.of_blk (E := intE) (l := [(3 : Int)]) (t := 3) (Blk.new_ rfl rfl)) (by simp) (by simp) rfl rfl ?_; rw [show (([(2 : Int)] : List Int) ++ [(3 : Int)]).length = 2 from rfl]; intro A1_1 c1_1 v1_1 hO_ hb_ hg_)
   have HOAA : Hid (OwnR intE v1_1 (w.heap.size + 1) (.slice A1_1 2 c1_1) ([(2 : Int), (3 : Int)] : List Int)) := hO_
   have ha_ : Below w.heap.size v0_0 v1_1 := (Below.alloc (Below.refl _ _) BXA.size _).trans (hb_.mono (by omega))
   have BXAA : Below w.heap.size w v1_1 := BXA.trans ha_
   replace kX := (kX.alloc_ _).below_ hb_ (by omega)
   clear hO_ hb_ hg_ ha_
   have zkX := kX.lt
   obtain ⟨-, q1, q2, -⟩ := zc11 kX
   go_wp2_with fail
   refine (rsFirst_any a0 a1 c0 c1 s.sl v1_1 (HS.out.r0.ext BXAA) (HS.out.r1.ext BXAA) HOT.out).mono ?_
   rintro e2_ u22 ⟨rfl, hb2_⟩
   have BXAAL := zbt BXAA hb2_
   replace kX := kX.below_ hb2_ kX.lt
   have HOAAL : Hid (OwnR intE u22 (w.heap.size + 1) (.slice A1_1 2 c1_1) ([(2 : Int), (3 : Int)] : List Int)) := HOAA.out.ext hb2_
   clear hb2_
   clear zkX q1 q2
   rw [HF2.out]
   cases g3 with
   | false =>
    go_wp2_with fail
    go_ret
    have HE : hinW s = ([(2 : Int), (3 : Int)] : List Int) := by rw [HIN.out]; rfl
    exact ⟨A1_1, c1_1, by rw [HE]; rfl, by rw [HE]; exact (HOAAL.out.sr).2, BXAAL⟩
   | true =>
    go_upto_region 9 with (at_builtin; refine wpList_ownR intE rfl (.tmp 34) (.tmp 35) _ rfl rfl _ (w.heap.size + 1) (by have := kX.lt; simp; omega) A1_1 c1_1 2 ([(2 : Int), (3 : Int)] : List Int) rfl (HOAAL.out.ext ((Below.refl _ _).alloc (Nat.le_refl _) _)) (some ⟨u22.heap.size, 0, none⟩) 1 1 [(4 : Int)] rfl (SR.of_blk (E := intE) (l := [(4 : Int)]) (t := 3) (Blk.new_ rfl rfl)) (by simp) (by simp) rfl rfl ?_; rw [show (([(2 : Int), (3 : Int)] : List Int) ++ [(4 : Int)]).length = 3 from rfl]; intro A2_2 c2_2 v2_2 hO_ hb_ hg_)
    have HOAALA : Hid (OwnR intE v2_2 (w.heap.size + 1) (.slice A2_2 3 c2_2) ([(2 : Int), (3 : Int), (4 : Int)] : List Int)) := hO_
    have ha_ : Below w.heap.size u22 v2_2 := (Below.alloc (Below.refl _ _) BXAAL.size _).trans (hb_.mono (by omega))
    have BXAALA : Below w.heap.size w v2_2 := BXAAL.trans ha_
    replace kX := (kX.alloc_ _).below_ hb_ (by omega)
    clear hO_ hb_ hg_ ha_
    go_wp2_with fail
    go_ret
    have HE : hinW s = ([(2 : Int), (3 : Int), (4 : Int)] : List Int) := by rw [HIN.out]; rfl
    exact ⟨A2_2, c2_2, by rw [HE]; rfl, by rw [HE]; exact (HOAALA.out.sr).2, BXAALA⟩
theorem rwHindersE_any (L : Lay) (s : Swp) (w : World) (h : SwR w L s) (hf : Few s) : Calls Tryz.prog 15 #[swV L s] w (HiPost (hinE s) w) := by
 obtain ⟨a0, c0, a1, c1, a2, c2, a3, c3, a4, c4, a5, c5, a6, c6, a7, c7⟩ := L
 have HS := Lib.hid h
 have HF := Lib.hid hf
 clear h hf
 unfold swV swC
 obtain ⟨X, hX⟩ : ∃ X, w.alloc (.cells (zkx s a0 c0 a1 c1 a2 c2 a3 c3 a4 c4 a5 c5 a6 c6 a7 c7).toArray 35) = X := ⟨_, rfl⟩
 have kX : Blk X w.heap.size 35 (zkx s a0 c0 a1 c1 a2 c2 a3 c3 a4 c4 a5 c5 a6 c6 a7 c7).toArray := by rw [← hX]; exact zbk
 have BX : Below w.heap.size w X := by rw [← hX]; exact zbl
 obtain ⟨z, hzz⟩ : ∃ z, chkW s = z := ⟨_, rfl⟩
 have HZZ := Lib.hid hzz
 have hC := rwCheck_any ⟨a0, c0, a1, c1, a2, c2, a3, c3, a4, c4, a5, c5, a6, c6, a7, c7⟩ s X (HS.out.ext BX) HF.out
 rw [hzz] at hC
 have HC := Lib.hid hC
 clear hC hzz
 have zkX := kX.lt
 obtain ⟨q0, q1, q2, q3, q4, q5, q6, q7, q8, q9, q10⟩ := zc11 kX
 go_enter Tryz.func15, Tryz.ntmps15
 go_wp2_with fail
 (try rw [hX])
 clear hX
 refine HC.out.mono ?_
 rintro e1 w1 ⟨rfl, hb1⟩
 have B1 := zbt BX hb1
 replace kX := kX.below_ hb1 kX.lt
 clear hb1
 clear zkX q0 q1 q2 q3 q4 q5 q6 q7 q8 q9 q10
 by_cases z0 : z = 0
 ·subst z0
  have HOK : Hid (OkS s) := chkW_ok.1 HZZ.out
  have zkX := kX.lt
  obtain ⟨q0, q1, q2, q3, q4, q5, q6, q7, q8, q9, q10⟩ := zc11 kX
  go_wp2_with fail
  refine (rwHinders_any ⟨a0, c0, a1, c1, a2, c2, a3, c3, a4, c4, a5, c5, a6, c6, a7, c7⟩ s w1 (HS.out.ext B1) HOK.out).mono ?_
  rintro e2 w2 ⟨A, c, rfl, hS, hb2⟩
  have HS2 := Lib.hid hS
  clear hS
  go_wp2_with fail
  refine bodyPost_ret (by simp [results, Tryz.results15, go_sem] <;> rfl) rfl ?_
  have e : hinE s = (hinW s, 0) := by unfold hinE; rw [HZZ.out]; rfl
  rw [e]
  exact ⟨A, c, rfl, HS2.out, B1.trans (hb2.mono B1.size)⟩
 ·have zb : (z != 0) = true := by simpa using z0
  have e : hinE s = ([], z) := by unfold hinE; rw [HZZ.out, if_pos z0]
  have HE := Lib.hid e
  clear z0 e
  go_wp2_with fail
  refine bodyPost_ret (by simp [results, Tryz.results15, go_sem] <;> rfl) rfl ?_
  rw [HE.out]
  exact ⟨none, 0, rfl, SR.nil, B1⟩
theorem rhAdd_any (A : Option Addr) (c : Nat) (l : List Wr) (s f : Int) (w : World) (ha : SW w A l) (la : l.length ≤ 1000) (h0 : addS l s f = (l ++ [(s, f, 0)], 0)) :
  Calls Tryz.prog 56 #[.slice A l.length c, .int .i64 s, .int .i64 f] w fun e w' => ∃ A c, e = .returned (.tuple #[.slice A (l.length + 1) c, .int .i64 0]) ∧ OwnM wrE w' w.heap.size A c (l ++ [(s, f, 0)]) ∧ Below w.heap.size w w' := by
 have HA := Lib.hid ha
 have hz : askS l s f 1 = 0 := by
  by_cases e : askS l s f 1 = 0
  ·exact e
  ·have := add_ask rfl e
   rw [h0] at this
   exact absurd (congrArg Prod.snd this).symm e
 have hadd := (add_go hz).1
 rw [h0] at hadd
 have hh : hit l (s, f, 0) = false := by
  cases e : hit l (s, f, 0) with
  | false => rfl
  | true => rw [e, if_pos rfl] at hadd; exact absurd (congrArg Prod.snd hadd) (by simp)
 rw [hh, if_neg (by simp)] at hadd
 have h16 : l.length < 16 := by
  by_cases e : 16 ≤ l.length
  ·rw [if_pos e] at hadd; exact absurd (congrArg Prod.snd hadd) (by simp)
  ·omega
 have HZ := Lib.hid hz
 have HH := Lib.hid hh
 clear ha h0 hz hadd hh
 go_enter Tryz.func56, Tryz.ntmps56
 go_wp2_with (first | (go_at_call 116; with_reducible refine (asks_any _ _ _ _ _ _ _ HA.out la HZ.out).mono ?_; rintro e w1 ⟨rfl, hb1⟩))
 have H1 : Hid (SW w1 A l) := HA.out.ext hb1
 go_loopw [9] (fun i wr => ∃ k : Nat, k ≤ l.length ∧ i = .int .i64 k ∧ Below w1.heap.size w1 wr) (fun i _ => l.length - (intOf i).toNat)
 case atStart => exact ⟨0, by omega, rfl, Below.refl _ _⟩
 case round =>
  obtain ⟨k, hk, rfl, hbw⟩ := hrel
  by_cases hlt : k < l.length
  ·obtain ⟨b, off, x, rfl, hbl, hx, q0, q1, q2⟩ := (H1.out.ext hbw).at_ hlt
   have i1 : (k : Int) < l.length := by omega
   have hn : hit [x] (s, f, 0) = false := by
    have h := HH.out
    unfold hit at h ⊢
    rw [List.any_eq_false] at h ⊢
    intro y hy
    simp at hy
    rw [hy]
    exact h x (List.mem_of_getElem? hx)
   simp [hit] at hn
   have e1b : (x.1 == s) = false := by simpa using hn.1
   have e2b : (x.2.1 == f) = false := by simpa using hn.2
   clear hx hn
   go_wp2
   go_roundw
   case rel => exact ⟨k + 1, by omega, by go_num, zbl⟩
   case measure => simp [intOf]; omega
  ·have hbw1 : Below w.heap.size w wr := hb1.trans (hbw.mono hb1.size)
   have h16' : ((l.length : Int) == 16) = false := beq_eq_false_iff_ne.2 (by omega)
   go_wp2_with (first | (go_at_call 117; with_reducible refine (rown_any _ _ _ _ (H1.out.ext hbw) la).mono ?_; rintro e w2 ⟨A2, c2, rfl, hc2, hm2, hb2⟩) | (at_builtin; refine wpList_appW rfl (.tmp 43) (.tmp 47) rfl _ wr.heap.size ?_ A2 c2 l.length l rfl (hc2.ext ?_) _ 1 1 [(s, f, 0)] rfl (SW.one (t := 106) ?_) (by simp; omega) rfl rfl ?_; (exact Nat.le_trans hb2.size (by simp)); (exact zbl); (exact zbk); intro A3 c3 w3 hc3 hb3 hm3))
   have hb23 : Below wr.heap.size wr w3 := hb2.trans ((show Below wr.heap.size w2 w3 from zbl))
   have hmm := hm3 (.inl (by simp))
   refine bodyPost_ret (by simp [results, Tryz.results56, go_sem] <;> rfl) rfl ?_
   exact ⟨A3, c3, rfl, (OwnM.of_mine hmm hc3.cw.2).base_ hbw1.size, hbw1.trans (hb23.mono hbw1.size)⟩
end Go.Proofs.YthijbipidbjpfaaGreatDoor
