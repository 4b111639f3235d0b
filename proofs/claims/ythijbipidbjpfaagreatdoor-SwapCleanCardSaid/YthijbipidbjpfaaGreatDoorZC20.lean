import Derived.Test.YthijbipidbjpfaaGreatDoorZC19
import Derived.Test.YthijbipidbjpfaaGreatDoorZC00
import Derived.Test.YthijbipidbjpfaaGreatDoorZC04
import Derived.Test.YthijbipidbjpfaaGreatDoorZC14
import Derived.Test.YthijbipidbjpfaaGreatDoorZC03
set_option linter.unusedSimpArgs false
set_option linter.unusedVariables false
set_option maxRecDepth 100000
set_option maxHeartbeats 8000000
namespace Go.Proofs.YthijbipidbjpfaaGreatDoor
open Go.RowKit Go.Maps
theorem ReadIn_any (L : Lay) (s : Swp) (n f p : Int) (w : World) (h : SwA w L s) (hz : TZ w) :
  Calls Tryz.prog 30 #[swV L s, .int .i64 n, .int .i64 f, .int .i64 p] w (SwPost (redW s n f p).1 [.int .i64 (redW s n f p).2] w) := by
 obtain ⟨a0, c0, a1, c1, a2, c2, a3, c3, a4, c4, a5, c5, a6, c6, a7, c7⟩ := L
 have HA := Lib.hid h
 have HZ := Lib.hid hz
 have HW0 : 0 < w.heap.size := hz.pos
 obtain ⟨Q, hQ⟩ : ∃ Q, redW s n f p = Q := ⟨_, rfl⟩
 rw [hQ]
 have HQ := Lib.hid hQ
 clear hQ h hz
 unfold swV swC
 obtain ⟨X, hX⟩ : ∃ X, (w.alloc (.cells (zkx s a0 c0 a1 c1 a2 c2 a3 c3 a4 c4 a5 c5 a6 c6 a7 c7).toArray 35)).alloc (.cells zkz.toArray 35) = X := ⟨_, rfl⟩
 have kX := za1 hX
 have kR := za2 hX
 have BX : Below w.heap.size w X := by rw [← hX]; exact zbl
 obtain ⟨z, hzz⟩ : ∃ z, chkW s = z := ⟨_, rfl⟩
 have HZZ := Lib.hid hzz
 have hC := wCheck_any ⟨a0, c0, a1, c1, a2, c2, a3, c3, a4, c4, a5, c5, a6, c6, a7, c7⟩ s X (HA.out.ext BX) (HZ.out.ext HW0 BX)
 rw [hzz] at hC
 have HC := Lib.hid hC
 clear hC hzz
 have zkX := kX.lt
 obtain ⟨q0, q1, q2, q3, q4, q5, q6, q7, q8, q9, q10⟩ := zc11 kX
 go_enter Tryz.func30, Tryz.ntmps30
 go_wp2_with fail
 (try rw [hX])
 clear hX
 refine HC.out.mono ?_
 rintro e1 w1 ⟨rfl, hb1⟩
 have B1 := zbt BX hb1
 replace kX := kX.below_ hb1 kX.lt
 replace kR := kR.below_ hb1 kR.lt
 clear hb1
 clear zkX q0 q1 q2 q3 q4 q5 q6 q7 q8 q9 q10
 by_cases z0 : z = 0
 ·subst z0
  have HOK : Hid (OkS s) := chkW_ok.1 HZZ.out
  cases d1 : decide (0 ≤ f ∧ f < 256) with
  | false =>
   have HE : Hid (Q = (.zero, 2)) := by show _ = _; rw [← HQ.out]; unfold redW frW; rw [HZZ.out, if_neg (by simp), d1]; rfl
   have ztR := kR.lt
   obtain ⟨t0, t1, t2, t3, t4, t5, t6, t7, t8, t9, t10⟩ := zc11 kR
   obtain ⟨tf0, tf1, tf2, tf3, tf4, tf5, tf6, tf7, tf8, tf9, tf10, -⟩ := zf kR
   go_wp2_with (go_at_call 48; refine (swFrame_b _ _ d1 _).mono ?_; rintro e w' ⟨rfl, rfl⟩)
   obtain ⟨W, hW⟩ : ∃ W, setN w1 (w.heap.size + 1) 0 zkz = W := ⟨_, rfl⟩
   have hWn := zs11 hW
   have kW := zsw hW kR
   have bW := zbw hW B1 (by omega)
   rw [hWn]
   clear hWn hW t0 tf0 t1 tf1 t2 tf2 t3 tf3 t4 tf4 t5 tf5 t6 tf6 t7 tf7 t8 tf8 t9 tf9 t10 tf10
   refine bodyPost_ret (by simp [results, Tryz.results30, go_sem, zc11 kW] <;> rfl) rfl ?_
   rw [HE.out]
   exact ⟨.zero, rfl, SwO.zero, bW⟩
  | true =>
   have HD1 : Hid (frW f = true) := d1
   obtain ⟨a, ha⟩ : ∃ a, askW s n p = a := ⟨_, rfl⟩
   have HAK := Lib.hid ha
   have hC := ask_any ⟨a0, c0, a1, c1, a2, c2, a3, c3, a4, c4, a5, c5, a6, c6, a7, c7⟩ s n p w1 (HA.out.ext B1) HOK.out
   rw [ha] at hC
   have HC2 := Lib.hid hC
   clear hC ha
   have zkX := kX.lt
   obtain ⟨q0, q1, q2, q3, q4, q5, q6, q7, q8, q9, q10⟩ := zc11 kX
   go_wp2_with (go_at_call 48; refine (swFrame_b _ _ d1 _).mono ?_; rintro e w' ⟨rfl, rfl⟩)
   refine HC2.out.mono ?_
   rintro e2 w2 ⟨rfl, hb2⟩
   have B2 := zbt B1 hb2
   replace kX := kX.below_ hb2 kX.lt
   replace kR := kR.below_ hb2 kR.lt
   clear hb2
   clear zkX q0 q1 q2 q3 q4 q5 q6 q7 q8 q9 q10
   by_cases a0 : a = 0
   ·subst a0
    obtain ⟨⟨n0, n1, p0, p1⟩, hnw, hrf⟩ := askW_zero.1 HAK.out
    obtain ⟨k, rfl⟩ : ∃ k : Nat, n = k := ⟨n.toNat, by omega⟩
    have hk : k < s.sl.busy.length := by rw [HOK.out.sl.blen]; omega
    obtain ⟨bb, off, y, hA1, hbl, hx, hc⟩ := (HA.out.sw.r1.ext B2).at_ hk
    have HX : Hid (bsyT s.sl k = y) := by show _ = _; unfold bsyT; rw [List.getD_eq_getElem?_getD, hx]; rfl
    have cf : w2.cell? ⟨bb, off + k, none⟩ = some (.bool y) := by
     have := hc 0 _ rfl
     rwa [show off + k * boolE.sz + 0 = off + k from by show off + k * 1 + 0 = _; omega] at this
    dsimp only at hA1
    subst hA1
    have i1 : (k : Int) < s.sl.busy.length := by omega
    clear n0 n1 p0 p1 hnw hrf hx hc hk
    cases y with
    | true =>
     have HE : Hid (Q = (.zero, 10)) := by show _ = _; rw [← HQ.out]; unfold redW; rw [HZZ.out, if_neg (by simp), HD1.out, if_neg (by simp), HAK.out, if_neg (by simp), Int.toNat_natCast, HX.out, Bool.true_or, if_pos rfl]
     have zkX := kX.lt
     have x2 := zc kX 2
     have ztR := kR.lt
     obtain ⟨t0, t1, t2, t3, t4, t5, t6, t7, t8, t9, t10⟩ := zc11 kR
     obtain ⟨tf0, tf1, tf2, tf3, tf4, tf5, tf6, tf7, tf8, tf9, tf10, -⟩ := zf kR
     go_wp2_with fail
     obtain ⟨W, hW⟩ : ∃ W, setN w2 (w.heap.size + 1) 0 zkz = W := ⟨_, rfl⟩
     have hWn := zs11 hW
     have kW := zsw hW kR
     have bW := zbw hW B2 (by omega)
     rw [hWn]
     clear hWn hW t0 tf0 t1 tf1 t2 tf2 t3 tf3 t4 tf4 t5 tf5 t6 tf6 t7 tf7 t8 tf8 t9 tf9 t10 tf10
     refine bodyPost_ret (by simp [results, Tryz.results30, go_sem, zc11 kW] <;> rfl) rfl ?_
     rw [HE.out]
     exact ⟨.zero, rfl, SwO.zero, bW⟩
    | false =>
     obtain ⟨us, hus⟩ : ∃ b, usW s f = b := ⟨_, rfl⟩
     have HUS := Lib.hid hus
     have hF := hasFrame_any ⟨a0, c0, some ⟨bb, off, none⟩, c1, a2, c2, a3, c3, a4, c4, a5, c5, a6, c6, a7, c7⟩ s f w2 (HA.out.sw.r6.ext B2) HA.out.few.f6
     rw [hus] at hF
     have HF := Lib.hid hF
     clear hF hus
     have zkX := kX.lt
     obtain ⟨q0, q1, q2, q3, q4, q5, q6, q7, q8, q9, q10⟩ := zc11 kX
     go_wp2_with fail
     refine HF.out.mono ?_
     rintro e3 w3 ⟨rfl, hb3⟩
     have B3 := zbt B2 hb3
     replace kX := kX.below_ hb3 kX.lt
     replace kR := kR.below_ hb3 kR.lt
     clear hb3
     clear zkX q0 q1 q2 q3 q4 q5 q6 q7 q8 q9 q10
     clear cf
     cases us with
     | true =>
      have HE : Hid (Q = (.zero, 10)) := by show _ = _; rw [← HQ.out]; unfold redW; rw [HZZ.out, if_neg (by simp), HD1.out, if_neg (by simp), HAK.out, if_neg (by simp), Int.toNat_natCast, HX.out, HUS.out, Bool.false_or, if_pos rfl]
      have ztR := kR.lt
      obtain ⟨t0, t1, t2, t3, t4, t5, t6, t7, t8, t9, t10⟩ := zc11 kR
      obtain ⟨tf0, tf1, tf2, tf3, tf4, tf5, tf6, tf7, tf8, tf9, tf10, -⟩ := zf kR
      go_wp2_with fail
      obtain ⟨W, hW⟩ : ∃ W, setN w3 (w.heap.size + 1) 0 zkz = W := ⟨_, rfl⟩
      have hWn := zs11 hW
      have kW := zsw hW kR
      have bW := zbw hW B3 (by omega)
      rw [hWn]
      clear hWn hW t0 tf0 t1 tf1 t2 tf2 t3 tf3 t4 tf4 t5 tf5 t6 tf6 t7 tf7 t8 tf8 t9 tf9 t10 tf10
      refine bodyPost_ret (by simp [results, Tryz.results30, go_sem, zc11 kW] <;> rfl) rfl ?_
      rw [HE.out]
      exact ⟨.zero, rfl, SwO.zero, bW⟩
     | false =>
      obtain ⟨-, -, -, -, -, -, -, x7, x8, -⟩ := zc11 kX
      have zkX := kX.lt
      by_cases r0 : s.dk.room ≤ (s.dk.jobs.length : Int)
      ·/- full -/
       have HE : Hid (Q = (.zero, 5)) := by show _ = _; rw [← HQ.out]; unfold redW; rw [HZZ.out, if_neg (by simp), HD1.out, if_neg (by simp), HAK.out, if_neg (by simp), Int.toNat_natCast, HX.out, HUS.out, if_neg (by simp), if_pos r0]
       have r0b : decide ((s.dk.jobs.length : Int) ≥ s.dk.room) = true := by simpa using r0
       clear r0
       have ztR := kR.lt
       obtain ⟨t0, t1, t2, t3, t4, t5, t6, t7, t8, t9, t10⟩ := zc11 kR
       obtain ⟨tf0, tf1, tf2, tf3, tf4, tf5, tf6, tf7, tf8, tf9, tf10, -⟩ := zf kR
       go_wp2_with fail
       obtain ⟨W, hW⟩ : ∃ W, setN w3 (w.heap.size + 1) 0 zkz = W := ⟨_, rfl⟩
       have hWn := zs11 hW
       have kW := zsw hW kR
       have bW := zbw hW B3 (by omega)
       rw [hWn]
       clear hWn hW t0 tf0 t1 tf1 t2 tf2 t3 tf3 t4 tf4 t5 tf5 t6 tf6 t7 tf7 t8 tf8 t9 tf9 t10 tf10
       refine bodyPost_ret (by simp [results, Tryz.results30, go_sem, zc11 kW] <;> rfl) rfl ?_
       rw [HE.out]
       exact ⟨.zero, rfl, SwO.zero, bW⟩
      ·have r0b : decide ((s.dk.jobs.length : Int) ≥ s.dk.room) = false := by simpa using r0
       obtain ⟨d, l, hfr, q1, q2, q3, q4⟩ := red_parts HOK.out HD1.out HAK.out (by rw [Int.toNat_natCast]; exact HX.out) HUS.out (by omega)
       rw [Int.toNat_natCast] at q1
       have HE : Hid (Q = (describeW { s with sl := (witT s.sl k (refT s.sl k) true), dk := ⟨s.dk.cells, s.dk.jobs ++ [⟨false, (k : Int), f, .zero⟩], s.dk.room⟩, rd := s.rd ++ [((k : Int), f, p)] }, 0)) := by
        show _ = _
        rw [← HQ.out]
        unfold redW
        rw [HZZ.out, if_neg (by simp), HD1.out, if_neg (by simp), HAK.out, if_neg (by simp), Int.toNat_natCast, HX.out, HUS.out, if_neg (by simp), if_neg r0]
        simp only [q1, q2]
       have P1 := Lib.hid q1
       have P2 := Lib.hid q2
       have PF := Lib.hid hfr
       clear q1 q2 q3 q4 hfr r0
       have HL := Lib.hid (load_any ⟨a0, c0, some ⟨bb, off, none⟩, c1, a2, c2, a3, c3, a4, c4, a5, c5, a6, c6, a7, c7⟩ s w3 (HA.out.sw.ext B3) HA.out.few)
       clear x7 x8 zkX
       have zkX := kX.lt
       obtain ⟨q0, q1, q2, q3, q4, q5, q6, q7, q8, q9, q10⟩ := zc11 kX
       go_wp2_with fail
       refine HL.out.mono ?_
       rintro e4 w4 ⟨B, L4, rfl, K4, hb4⟩
       have HKR : w.heap.size + 1 < w3.heap.size := kR.lt
       have hWR := Lib.hid (read_work w3.heap.size B L4 s k f p w4 K4 HA.out.few HOK.out.po P1.out P2.out PF.out)
       have B4 := zbt B3 hb4
       replace kX := kX.below_ hb4 kX.lt
       replace kR := kR.below_ hb4 kR.lt
       clear hb4
       clear zkX q0 q1 q2 q3 q4 q5 q6 q7 q8 q9 q10
       clear K4
       go_wp2_with fail
       refine hWR.out.mono ?_
       rintro e5 w5 ⟨rfl, ⟨⟨b0, k0, b1, k1, b2, k2, b3, k3, b4, k4, b5, k5, b6, k6, b7, k7⟩, K5⟩, hb5⟩
       obtain ⟨S5, hS5⟩ : ∃ S5, describeW { s with sl := (witT s.sl k (refT s.sl k) true), dk := ⟨s.dk.cells, s.dk.jobs ++ [⟨false, (k : Int), f, .zero⟩], s.dk.room⟩, rd := s.rd ++ [((k : Int), f, p)] } = S5 := ⟨_, rfl⟩
       rw [hS5] at K5 HE
       have kB6 : Blk w5 B 87 (zkx S5 b0 k0 b1 k1 b2 k2 b3 k3 b4 k4 b5 k5 b6 k6 b7 k7).toArray := K5.blk
       have HO5 := Lib.hid K5.own
       have kR5 := kR.below_ hb5 HKR
       have B5 : Below w.heap.size w w5 := B4.trans (hb5.mono (by have := B3.size; omega))
       clear K5 hS5
       have ztR := kR5.lt
       have ztB := kB6.lt
       obtain ⟨t0, t1, t2, t3, t4, t5, t6, t7, t8, t9, t10⟩ := zc11 kR5
       obtain ⟨tf0, tf1, tf2, tf3, tf4, tf5, tf6, tf7, tf8, tf9, tf10, -⟩ := zf kR5
       obtain ⟨u0, u1, u2, u3, u4, u5, u6, u7, u8, u9, u10⟩ := zc11 kB6
       go_wp2_with fail
       obtain ⟨W, hW⟩ : ∃ W, setN w5 (w.heap.size + 1) 0 (zkx S5 b0 k0 b1 k1 b2 k2 b3 k3 b4 k4 b5 k5 b6 k6 b7 k7) = W := ⟨_, rfl⟩
       have hWn := zs11 hW
       have kW := zsw hW kR5
       have bW := zbw hW B5 (by omega)
       have oW : SwO W w3.heap.size ⟨b0, k0, b1, k1, b2, k2, b3, k3, b4, k4, b5, k5, b6, k6, b7, k7⟩ S5 := by rw [← hW]; exact HO5.out.farN HKR _
       rw [hWn]
       clear hWn hW t0 tf0 t1 tf1 t2 tf2 t3 tf3 t4 tf4 t5 tf5 t6 tf6 t7 tf7 t8 tf8 t9 tf9 t10 tf10
       refine bodyPost_ret (by simp [results, Tryz.results30, go_sem, zc11 kW] <;> rfl) rfl ?_
       rw [HE.out]
       exact ⟨⟨b0, k0, b1, k1, b2, k2, b3, k3, b4, k4, b5, k5, b6, k6, b7, k7⟩, rfl, oW.base_ (by have := B3.size; have := B5.size; omega), bW⟩
   ·/- asked in vain -/
    have HE : Hid (Q = (.zero, a)) := by show _ = _; rw [← HQ.out]; unfold redW; rw [HZZ.out, if_neg (by simp), HD1.out, if_neg (by simp), HAK.out, if_pos (by simpa using a0)]
    have ab : (a != 0) = true := by simpa using a0
    clear a0
    have ztR := kR.lt
    obtain ⟨t0, t1, t2, t3, t4, t5, t6, t7, t8, t9, t10⟩ := zc11 kR
    obtain ⟨tf0, tf1, tf2, tf3, tf4, tf5, tf6, tf7, tf8, tf9, tf10, -⟩ := zf kR
    go_wp2_with fail
    obtain ⟨W, hW⟩ : ∃ W, setN w2 (w.heap.size + 1) 0 zkz = W := ⟨_, rfl⟩
    have hWn := zs11 hW
    have kW := zsw hW kR
    have bW := zbw hW B2 (by omega)
    rw [hWn]
    clear hWn hW t0 tf0 t1 tf1 t2 tf2 t3 tf3 t4 tf4 t5 tf5 t6 tf6 t7 tf7 t8 tf8 t9 tf9 t10 tf10
    refine bodyPost_ret (by simp [results, Tryz.results30, go_sem, zc11 kW] <;> rfl) rfl ?_
    rw [HE.out]
    exact ⟨.zero, rfl, SwO.zero, bW⟩
 ·have HE : Hid (Q = (.zero, z)) := by show _ = _; rw [← HQ.out]; unfold redW; rw [HZZ.out, if_pos (by simpa using z0)]
  have zb : (z != 0) = true := by simpa using z0
  clear z0
  have ztR := kR.lt
  obtain ⟨t0, t1, t2, t3, t4, t5, t6, t7, t8, t9, t10⟩ := zc11 kR
  obtain ⟨tf0, tf1, tf2, tf3, tf4, tf5, tf6, tf7, tf8, tf9, tf10, -⟩ := zf kR
  go_wp2_with fail
  obtain ⟨W, hW⟩ : ∃ W, setN w1 (w.heap.size + 1) 0 zkz = W := ⟨_, rfl⟩
  have hWn := zs11 hW
  have kW := zsw hW kR
  have bW := zbw hW B1 (by omega)
  rw [hWn]
  clear hWn hW t0 tf0 t1 tf1 t2 tf2 t3 tf3 t4 tf4 t5 tf5 t6 tf6 t7 tf7 t8 tf8 t9 tf9 t10 tf10
  refine bodyPost_ret (by simp [results, Tryz.results30, go_sem, zc11 kW] <;> rfl) rfl ?_
  rw [HE.out]
  exact ⟨.zero, rfl, SwO.zero, bW⟩
theorem find_parts {s : Swp} (h : OkS s) {n p : Int} (ha : askW s n p = 0) : findS s.wr n = match s.wr.findIdx? (fun v => decide (v.1 = n)) with | none => (0, 6) | some i => (i, 0) := by
 obtain ⟨⟨n0, n1, _, _⟩, _, _⟩ := askW_zero.1 ha
 have hl := h.len
 have hc := h.dk.cells
 unfold findS
 rw [chkS_zero h.wr, if_neg (by simp), if_pos (by omega)]
 cases s.wr.findIdx? (fun v => decide (v.1 = n)) <;> rfl
theorem cla_parts {s : Swp} (h : OkS s) {n p : Int} (ha : askW s n p = 0) {i : Nat} {x : Wr} (hi : s.wr.findIdx? (fun v => decide (v.1 = n)) = some i) (hx : s.wr[i]? = some x) (h0 : x.2.2 = 0) : claS s.wr n p = (setC s.wr i p, 0) := by
 obtain ⟨⟨_, _, p0, p1⟩, hw, _⟩ := askW_zero.1 ha
 have hg : s.wr.getD i (0, 0, 0) = x := by rw [List.getD_eq_getElem?_getD, hx]; rfl
 have hn : s.wr.findIdx? (fun x => decide (x.2.2 = p)) = none := by
  rw [List.findIdx?_eq_none_iff]
  intro v hv
  refine decide_eq_false fun e => ?_
  have hm : (p, v.1) ∈ wtW s := by
   rw [wtW_eq]
   exact List.mem_append_left _ (wtL_mem.2 ⟨v, hv, e, rfl, by omega⟩)
  exact hw _ hm rfl
 unfold claS
 rw [find_parts h ha, hi]
 dsimp only
 rw [if_neg (by simp), if_pos ⟨p0, p1⟩, if_neg (by simp), hg, if_neg (by simpa using h0), hn, if_neg (by simp)]
 unfold setC
 rw [hg]
theorem SwClaim_any (L : Lay) (s : Swp) (n p : Int) (w : World) (h : SwA w L s) (hz : TZ w) :
  Calls Tryz.prog 32 #[swV L s, .int .i64 n, .int .i64 p] w (SwPost (claW s n p).1 [.int .i64 (claW s n p).2] w) := by
 obtain ⟨a0, c0, a1, c1, a2, c2, a3, c3, a4, c4, a5, c5, a6, c6, a7, c7⟩ := L
 have HA := Lib.hid h
 have HZ := Lib.hid hz
 have HW0 : 0 < w.heap.size := hz.pos
 obtain ⟨Q, hQ⟩ : ∃ Q, claW s n p = Q := ⟨_, rfl⟩
 rw [hQ]
 have HQ := Lib.hid hQ
 clear hQ h hz
 unfold swV swC
 obtain ⟨X, hX⟩ : ∃ X, (w.alloc (.cells (zkx s a0 c0 a1 c1 a2 c2 a3 c3 a4 c4 a5 c5 a6 c6 a7 c7).toArray 35)).alloc (.cells zkz.toArray 35) = X := ⟨_, rfl⟩
 have kX := za1 hX
 have kR := za2 hX
 have BX : Below w.heap.size w X := by rw [← hX]; exact zbl
 obtain ⟨z, hzz⟩ : ∃ z, chkW s = z := ⟨_, rfl⟩
 have HZZ := Lib.hid hzz
 have hC := wCheck_any ⟨a0, c0, a1, c1, a2, c2, a3, c3, a4, c4, a5, c5, a6, c6, a7, c7⟩ s X (HA.out.ext BX) (HZ.out.ext HW0 BX)
 rw [hzz] at hC
 have HC := Lib.hid hC
 clear hC hzz
 have zkX := kX.lt
 obtain ⟨q0, q1, q2, q3, q4, q5, q6, q7, q8, q9, q10⟩ := zc11 kX
 go_enter Tryz.func32, Tryz.ntmps32
 go_wp2_with fail
 (try rw [hX])
 clear hX
 refine HC.out.mono ?_
 rintro e1 w1 ⟨rfl, hb1⟩
 have B1 := zbt BX hb1
 replace kX := kX.below_ hb1 kX.lt
 replace kR := kR.below_ hb1 kR.lt
 clear hb1
 clear zkX q0 q1 q2 q3 q4 q5 q6 q7 q8 q9 q10
 by_cases z0 : z = 0
 ·subst z0
  have HOK : Hid (OkS s) := chkW_ok.1 HZZ.out
  obtain ⟨a, ha⟩ : ∃ a, askW s n p = a := ⟨_, rfl⟩
  have HAK := Lib.hid ha
  have hC := ask_any ⟨a0, c0, a1, c1, a2, c2, a3, c3, a4, c4, a5, c5, a6, c6, a7, c7⟩ s n p w1 (HA.out.ext B1) HOK.out
  rw [ha] at hC
  have HC2 := Lib.hid hC
  clear hC ha
  have zkX := kX.lt
  obtain ⟨q0, q1, q2, q3, q4, q5, q6, q7, q8, q9, q10⟩ := zc11 kX
  go_wp2_with fail
  refine HC2.out.mono ?_
  rintro e2 w2 ⟨rfl, hb2⟩
  have B2 := zbt B1 hb2
  replace kX := kX.below_ hb2 kX.lt
  replace kR := kR.below_ hb2 kR.lt
  clear hb2
  clear zkX q0 q1 q2 q3 q4 q5 q6 q7 q8 q9 q10
  by_cases a0 : a = 0
  ·subst a0
   have HFP := Lib.hid (find_parts HOK.out HAK.out)
   obtain ⟨fi, hfi⟩ : ∃ fi, s.wr.findIdx? (fun v => decide (v.1 = n)) = fi := ⟨_, rfl⟩
   rw [hfi] at HFP
   have HFI := Lib.hid hfi
   clear hfi
   cases fi with
   | none =>
    have HE : Hid (Q = (.zero, 6)) := by show _ = _; rw [← HQ.out]; unfold claW; rw [HZZ.out, if_neg (by simp), HAK.out, if_neg (by simp), HFI.out]
    have zkX := kX.lt
    obtain ⟨-, -, -, x3, -⟩ := zc11 kX
    go_wp2_with fail
    refine (Find_any a2 c2 s.wr n w2 (HA.out.sw.r2.ext B2).sw HA.out.few.f2 HFP.out).mono ?_
    rintro e3 w3 ⟨rfl, hb3⟩
    have B3 := zbt B2 hb3
    replace kX := kX.below_ hb3 kX.lt
    replace kR := kR.below_ hb3 kR.lt
    clear hb3
    clear x3 zkX
    have ztR := kR.lt
    obtain ⟨t0, t1, t2, t3, t4, t5, t6, t7, t8, t9, t10⟩ := zc11 kR
    obtain ⟨tf0, tf1, tf2, tf3, tf4, tf5, tf6, tf7, tf8, tf9, tf10, -⟩ := zf kR
    go_wp2_with fail
    obtain ⟨W, hW⟩ : ∃ W, setN w3 (w.heap.size + 1) 0 zkz = W := ⟨_, rfl⟩
    have hWn := zs11 hW
    have kW := zsw hW kR
    have bW := zbw hW B3 (by omega)
    rw [hWn]
    clear hWn hW t0 tf0 t1 tf1 t2 tf2 t3 tf3 t4 tf4 t5 tf5 t6 tf6 t7 tf7 t8 tf8 t9 tf9 t10 tf10
    refine bodyPost_ret (by simp [results, Tryz.results32, go_sem, zc11 kW] <;> rfl) rfl ?_
    rw [HE.out]
    exact ⟨.zero, rfl, SwO.zero, bW⟩
   | some i =>
    have hi : i < s.wr.length := by
     have := HFI.out
     rw [List.findIdx?_eq_some_iff_getElem] at this
     exact this.1
    have zkX := kX.lt
    obtain ⟨-, -, -, x3, -⟩ := zc11 kX
    go_wp2_with fail
    refine (Find_any a2 c2 s.wr n w2 (HA.out.sw.r2.ext B2).sw HA.out.few.f2 HFP.out).mono ?_
    rintro e3 w3 ⟨rfl, hb3⟩
    have B3 := zbt B2 hb3
    replace kX := kX.below_ hb3 kX.lt
    replace kR := kR.below_ hb3 kR.lt
    clear hb3
    clear x3 zkX
    obtain ⟨bb, off, y, hA1, hbl, hx, hc⟩ := (HA.out.sw.r2.ext B3).at_ hi
    obtain ⟨y0, y1, y2⟩ := y
    have HX := Lib.hid hx
    have cf : w3.cell? ⟨bb, off + i * 3 + 2, none⟩ = some (.int .i64 y2) := hc 2 _ rfl
    dsimp only at hA1
    subst hA1
    have i1 : (i : Int) < s.wr.length := by omega
    have zkX := kX.lt
    have x3 := zc kX 3
    clear hx hc hi
    by_cases y20 : y2 = 0
    ·subst y20
     have P1 := Lib.hid (cla_parts HOK.out HAK.out HFI.out HX.out rfl)
     have HE : Hid (Q = ({ s with wr := setC s.wr i p }, 0)) := by
      show _ = _
      rw [← HQ.out]
      unfold claW
      rw [HZZ.out, if_neg (by simp), HAK.out, if_neg (by simp), HFI.out]
      dsimp only
      rw [List.getD_eq_getElem?_getD, HX.out, if_neg (by simp)]
     have HL := Lib.hid (load_any ⟨a0, c0, a1, c1, (some ⟨bb, off, none⟩), c2, a3, c3, a4, c4, a5, c5, a6, c6, a7, c7⟩ s w3 (HA.out.sw.ext B3) HA.out.few)
     clear zkX x3
     have zkX := kX.lt
     obtain ⟨q0, q1, q2, q3, q4, q5, q6, q7, q8, q9, q10⟩ := zc11 kX
     go_wp2_with fail
     refine HL.out.mono ?_
     rintro e4 w4 ⟨B, ⟨b0, k0, b1, k1, b2, k2, b3, k3, b4, k4, b5, k5, b6, k6, b7, k7⟩, rfl, K4, hb4⟩
     have HKR : w.heap.size + 1 < w3.heap.size := kR.lt
     have HK4 := Lib.hid K4
     have hBlow : w3.heap.size ≤ B := K4.low
     have kB : Blk w4 B 87 (zkx s b0 k0 b1 k1 b2 k2 b3 k3 b4 k4 b5 k5 b6 k6 b7 k7).toArray := K4.blk
     have B4 := zbt B3 hb4
     replace kX := kX.below_ hb4 kX.lt
     replace kR := kR.below_ hb4 kR.lt
     clear hb4
     clear zkX q0 q1 q2 q3 q4 q5 q6 q7 q8 q9 q10
     clear K4 cf
     have hA := Claim_own b2 k2 s.wr n p w4 HK4.out.own.o2.sr.sw HA.out.few.f2
     rw [P1.out] at hA
     have HC5 := Lib.hid hA
     clear hA
     have zB := kB.lt
     obtain ⟨-, -, -, u3, -⟩ := zc11 kB
     go_wp2_with fail
     refine HC5.out.mono ?_
     rintro e5 w5 ⟨A, c, rfl, hcw, hb5, hmine⟩
     dsimp only at hcw hmine
     dsimp only
     have hlen := hcw.2
     have kB5 := kB.below_ hb5 zB
     have zB5 := kB5.lt
     clear u3 hcw
     obtain ⟨-, -, -, u3, -⟩ := zc11 kB5
     have uf3 := kB5.frozen_ 3
     go_upto_region 16 with fail
     obtain ⟨W5, hW5⟩ : ∃ W5, w5.setCell ⟨B, 3, none⟩ (.slice A (setC s.wr i p).length c) = W5 := ⟨_, rfl⟩
     have K5 : WkAt W5 w3.heap.size B ⟨b0, k0, b1, k1, A, c, b3, k3, b4, k4, b5, k5, b6, k6, b7, k7⟩ { s with wr := setC s.wr i p } := by rw [← hW5]; exact HK4.out.writes hb5 (OwnM.of_mine hmine hlen)
     have kR5 : Blk W5 (w.heap.size + 1) 35 zkz.toArray := by rw [← hW5]; exact (kR.below_ hb5 kR.lt).far_ (p := ⟨B, 3, none⟩) (by show _ ≠ B; omega) _
     have B5 : Below w.heap.size w W5 := by rw [← hW5]; exact (B4.trans (hb5.mono B4.size)).setCell (p := ⟨B, 3, none⟩) (by show w.heap.size ≤ B; have := B3.size; omega) _
     rw [hW5]
     clear hW5 u3 uf3
     obtain ⟨S5, hS5⟩ : ∃ S5, { s with wr := setC s.wr i p } = S5 := ⟨_, rfl⟩
     rw [hS5] at K5 HE
     have kB6 : Blk W5 B 87 (zkx S5 b0 k0 b1 k1 A c b3 k3 b4 k4 b5 k5 b6 k6 b7 k7).toArray := K5.blk
     have HO5 := Lib.hid K5.own
     clear K5 hS5
     have ztR := kR5.lt
     have ztB := kB6.lt
     obtain ⟨t0, t1, t2, t3, t4, t5, t6, t7, t8, t9, t10⟩ := zc11 kR5
     obtain ⟨tf0, tf1, tf2, tf3, tf4, tf5, tf6, tf7, tf8, tf9, tf10, -⟩ := zf kR5
     obtain ⟨u0, u1, u2, u3, u4, u5, u6, u7, u8, u9, u10⟩ := zc11 kB6
     go_wp2_with fail
     obtain ⟨W, hW⟩ : ∃ W, setN W5 (w.heap.size + 1) 0 (zkx S5 b0 k0 b1 k1 A c b3 k3 b4 k4 b5 k5 b6 k6 b7 k7) = W := ⟨_, rfl⟩
     have hWn := zs11 hW
     have kW := zsw hW kR5
     have bW := zbw hW B5 (by omega)
     have oW : SwO W w3.heap.size ⟨b0, k0, b1, k1, A, c, b3, k3, b4, k4, b5, k5, b6, k6, b7, k7⟩ S5 := by rw [← hW]; exact HO5.out.farN HKR _
     rw [hWn]
     clear hWn hW t0 tf0 t1 tf1 t2 tf2 t3 tf3 t4 tf4 t5 tf5 t6 tf6 t7 tf7 t8 tf8 t9 tf9 t10 tf10
     refine bodyPost_ret (by simp [results, Tryz.results32, go_sem, zc11 kW] <;> rfl) rfl ?_
     rw [HE.out]
     exact ⟨⟨b0, k0, b1, k1, A, c, b3, k3, b4, k4, b5, k5, b6, k6, b7, k7⟩, rfl, oW.base_ (by have := B3.size; omega), bW⟩
    ·have HE : Hid (Q = (.zero, 10)) := by
      show _ = _
      rw [← HQ.out]
      unfold claW
      rw [HZZ.out, if_neg (by simp), HAK.out, if_neg (by simp), HFI.out]
      dsimp only
      rw [List.getD_eq_getElem?_getD, HX.out, if_pos (by simpa using y20)]
     have yb : (y2 != 0) = true := by simpa using y20
     clear y20
     have ztR := kR.lt
     obtain ⟨t0, t1, t2, t3, t4, t5, t6, t7, t8, t9, t10⟩ := zc11 kR
     obtain ⟨tf0, tf1, tf2, tf3, tf4, tf5, tf6, tf7, tf8, tf9, tf10, -⟩ := zf kR
     go_wp2_with fail
     obtain ⟨W, hW⟩ : ∃ W, setN w3 (w.heap.size + 1) 0 zkz = W := ⟨_, rfl⟩
     have hWn := zs11 hW
     have kW := zsw hW kR
     have bW := zbw hW B3 (by omega)
     rw [hWn]
     clear hWn hW t0 tf0 t1 tf1 t2 tf2 t3 tf3 t4 tf4 t5 tf5 t6 tf6 t7 tf7 t8 tf8 t9 tf9 t10 tf10
     refine bodyPost_ret (by simp [results, Tryz.results32, go_sem, zc11 kW] <;> rfl) rfl ?_
     rw [HE.out]
     exact ⟨.zero, rfl, SwO.zero, bW⟩
  ·/- asked in vain -/
   have HE : Hid (Q = (.zero, a)) := by show _ = _; rw [← HQ.out]; unfold claW; rw [HZZ.out, if_neg (by simp), HAK.out, if_pos (by simpa using a0)]
   have ab : (a != 0) = true := by simpa using a0
   clear a0
   have ztR := kR.lt
   obtain ⟨t0, t1, t2, t3, t4, t5, t6, t7, t8, t9, t10⟩ := zc11 kR
   obtain ⟨tf0, tf1, tf2, tf3, tf4, tf5, tf6, tf7, tf8, tf9, tf10, -⟩ := zf kR
   go_wp2_with fail
   obtain ⟨W, hW⟩ : ∃ W, setN w2 (w.heap.size + 1) 0 zkz = W := ⟨_, rfl⟩
   have hWn := zs11 hW
   have kW := zsw hW kR
   have bW := zbw hW B2 (by omega)
   rw [hWn]
   clear hWn hW t0 tf0 t1 tf1 t2 tf2 t3 tf3 t4 tf4 t5 tf5 t6 tf6 t7 tf7 t8 tf8 t9 tf9 t10 tf10
   refine bodyPost_ret (by simp [results, Tryz.results32, go_sem, zc11 kW] <;> rfl) rfl ?_
   rw [HE.out]
   exact ⟨.zero, rfl, SwO.zero, bW⟩
 ·have HE : Hid (Q = (.zero, z)) := by show _ = _; rw [← HQ.out]; unfold claW; rw [HZZ.out, if_pos (by simpa using z0)]
  have zb : (z != 0) = true := by simpa using z0
  clear z0
  have ztR := kR.lt
  obtain ⟨t0, t1, t2, t3, t4, t5, t6, t7, t8, t9, t10⟩ := zc11 kR
  obtain ⟨tf0, tf1, tf2, tf3, tf4, tf5, tf6, tf7, tf8, tf9, tf10, -⟩ := zf kR
  go_wp2_with fail
  obtain ⟨W, hW⟩ : ∃ W, setN w1 (w.heap.size + 1) 0 zkz = W := ⟨_, rfl⟩
  have hWn := zs11 hW
  have kW := zsw hW kR
  have bW := zbw hW B1 (by omega)
  rw [hWn]
  clear hWn hW t0 tf0 t1 tf1 t2 tf2 t3 tf3 t4 tf4 t5 tf5 t6 tf6 t7 tf7 t8 tf8 t9 tf9 t10 tf10
  refine bodyPost_ret (by simp [results, Tryz.results32, go_sem, zc11 kW] <;> rfl) rfl ?_
  rw [HE.out]
  exact ⟨.zero, rfl, SwO.zero, bW⟩
theorem relW_append (a b : List Wr) (p : Int) : relW (a ++ b) p = relW a p ++ relW b p := by unfold relW; rw [List.map_append]
theorem rel_drop {l : List Wr} {k : Nat} {x : Wr} (hx : l[k]? = some x) : l.drop k = x :: l.drop (k + 1) := by
 obtain ⟨hk, e⟩ := List.getElem?_eq_some_iff.1 hx
 rw [List.drop_eq_getElem_cons hk, e]
theorem relW_len (l : List Wr) (p : Int) : (relW l p).length = l.length := by unfold relW; simp
theorem rel_len {l : List Wr} {k : Nat} {p : Int} : (relW (l.take k) p ++ l.drop k).length = l.length := by
 rw [List.length_append, relW_len, ← List.length_append, List.take_append_drop]
theorem rel_at {l : List Wr} {k : Nat} {x : Wr} {p : Int} (hx : l[k]? = some x) : (relW (l.take k) p ++ l.drop k)[k]? = some x := by
 obtain ⟨hk, e⟩ := List.getElem?_eq_some_iff.1 hx
 have hl : (relW (l.take k) p).length = k := by rw [relW_len, List.length_take]; omega
 rw [List.getElem?_append_right (by omega), hl, Nat.sub_self, rel_drop hx]
 rfl
theorem rel_hit {l : List Wr} {k : Nat} {x : Wr} {p : Int} (hx : l[k]? = some x) (hp : x.2.2 = p) : (relW (l.take k) p ++ l.drop k).set k (x.1, x.2.1, 0) = relW (l.take (k + 1)) p ++ l.drop (k + 1) := by
 obtain ⟨hk, e⟩ := List.getElem?_eq_some_iff.1 hx
 have hl : (relW (l.take k) p).length = k := by rw [relW_len, List.length_take]; omega
 rw [List.set_append_right _ _ (by omega), hl, Nat.sub_self, rel_drop hx, List.set_cons_zero, List.take_add_one, hx, relW_append]
 show _ = (relW (l.take k) p ++ relW [x] p) ++ _
 rw [List.append_assoc]
 congr 1
 unfold relW
 simp [hp]
theorem rel_miss {l : List Wr} {k : Nat} {x : Wr} {p : Int} (hx : l[k]? = some x) (hp : x.2.2 ≠ p) : relW (l.take k) p ++ l.drop k = relW (l.take (k + 1)) p ++ l.drop (k + 1) := by
 rw [rel_drop hx, List.take_add_one, hx, relW_append]
 show _ = (relW (l.take k) p ++ relW [x] p) ++ _
 rw [List.append_assoc]
 congr 1
 unfold relW
 simp [hp]
theorem relW_none {l : List Wr} {p : Int} (h : ∀ v ∈ l, v.2.2 ≠ p) : relW l p = l := by
 unfold relW
 conv => rhs; rw [← List.map_id l]
 exact List.map_congr_left fun v hv => by simp [h v hv]
theorem relW_one {l : List Wr} (hp : l.Pairwise apart) {i : Nat} {x : Wr} {p : Int} (hx : l[i]? = some x) (h0 : p ≠ 0) (he : x.2.2 = p) : relW l p = l.set i (x.1, x.2.1, 0) := by
 apply List.ext_getElem?
 intro j
 unfold relW
 rw [List.getElem?_map, List.getElem?_set]
 obtain ⟨hi, ei⟩ := List.getElem?_eq_some_iff.1 hx
 by_cases e : i = j
 ·subst e
  rw [if_pos rfl, if_pos hi, hx]
  simp [he]
 ·rw [if_neg e]
  cases hj : l[j]? with
  | none => rfl
  | some y =>
   obtain ⟨hj1, ej⟩ := List.getElem?_eq_some_iff.1 hj
   have hne : y.2.2 ≠ p := by
    rcases Nat.lt_or_gt_of_ne e with h | h
    ·have := (List.pairwise_iff_getElem.1 hp i j hi hj1 h).2.2
     rw [ei, ej] at this
     rcases this with h2 | h2
     ·rw [h2]; exact fun h => h0 h.symm
     ·rw [he] at h2; exact fun h => h2 h.symm
    ·have := (List.pairwise_iff_getElem.1 hp j i hj1 hi h).2.2
     rw [ei, ej] at this
     rcases this with h2 | h2
     ·rw [he] at h2; exact absurd h2 h0
     ·rw [he] at h2; exact h2
   simp [hne]
theorem rel_write {s : Swp} (h : OkS s) {p m : Int} (hp : 1 ≤ p ∧ p ≤ 8) (hl : lkV (wtV s) p = some (true, m)) : uncS s.wr p = (relW s.wr p, true, 0) ∧ relW s.rd p = s.rd := by
 have hn := ((wtok_iff s).1 (wtok_of h)).1
 have hm := (lkV_some (l := wtV s) hn).1 hl
 have hwr : ∃ v ∈ s.wr, v.2.2 = p := by
  rcases List.mem_append.1 hm with hm | hm
  ·obtain ⟨v, hv, h0, e⟩ := wtv_mem.1 hm
   injection e with e1 e2
   exact ⟨v, hv, e1.symm⟩
  ·obtain ⟨v, hv, h0, e⟩ := wtv_mem.1 hm
   injection e with e1 e2
   injection e2 with e2 _
   cases e2
 obtain ⟨v, hv, ev⟩ := hwr
 refine ⟨?_, relW_none fun u hu e => ?_⟩
 ·have hc : clmS s.wr p = match s.wr.findIdx? (fun x => decide (x.2.2 = p)) with | none => (-1, 0) | some i => ((i : Int), 0) := by
   unfold clmS
   rw [chkS_zero h.wr, if_neg (by simp), if_pos hp]
   cases s.wr.findIdx? (fun x => decide (x.2.2 = p)) <;> rfl
  cases hf : s.wr.findIdx? (fun x => decide (x.2.2 = p)) with
  | none =>
   rw [List.findIdx?_eq_none_iff] at hf
   have := hf v hv
   simp [ev] at this
  | some i =>
   rw [hf] at hc
   rw [List.findIdx?_eq_some_iff_getElem] at hf
   obtain ⟨hi, h1, _⟩ := hf
   have hx : s.wr[i]? = some s.wr[i] := List.getElem?_eq_getElem hi
   have hg : s.wr.getD i (0, 0, 0) = s.wr[i] := by rw [List.getD_eq_getElem?_getD, hx]; rfl
   unfold uncS
   rw [hc]
   dsimp only
   rw [if_neg (by simp), if_neg (by omega), Int.toNat_natCast, hg, relW_one h.wr.2.2 hx (by omega) (by simpa using h1)]
 ·have hm2 : (p, false, u.1) ∈ wtV s := List.mem_append_right _ (wtv_mem.2 ⟨u, hu, by omega, by rw [e]⟩)
  have := (lkV_some (l := wtV s) hn).2 hm2
  rw [hl] at this
  injection this with this
  injection this with this
  cases this
theorem rel_read {s : Swp} (h : OkS s) {p : Int} (hp : 1 ≤ p ∧ p ≤ 8) (hl : ∀ m, lkV (wtV s) p ≠ some (true, m)) : relW s.wr p = s.wr := by
 have hn := ((wtok_iff s).1 (wtok_of h)).1
 refine relW_none fun u hu e => ?_
 have hm2 : (p, true, u.1) ∈ wtV s := List.mem_append_left _ (wtv_mem.2 ⟨u, hu, by omega, by rw [e]⟩)
 exact hl _ ((lkV_some (l := wtV s) hn).2 hm2)
theorem rdE_flat (l : List Wr) : rdE.flat l = cellsW l := by
 unfold cellsW
 induction l with
 | nil => rfl
 | cons x l ih =>
  show Value.int .i64 x.1 :: .int .i64 x.2.1 :: .int .i64 x.2.2 :: rdE.flat l = _
  rw [ih]
  rfl
theorem rdE_put {w : World} {base c : Nat} {A : Option Addr} {l : List Wr} {i : Nat} {x : Wr} (h : OwnE rdE w base A c l) (hx : l[i]? = some x) :
  ∃ g cur, A = some ⟨g, 0, none⟩ ∧ base ≤ g ∧ Blk w g rdE.e cur ∧ w.cell? ⟨g, i * 3 + 2, none⟩ = some (.int .i64 x.2.2) ∧ ∀ p, OwnE rdE (w.setCell ⟨g, i * 3 + 2, none⟩ (.int .i64 p)) base A c (l.set i (x.1, x.2.1, p)) := by
 obtain ⟨hi, ei⟩ := List.getElem?_eq_some_iff.1 hx
 have hr : OwnR rdE w base (.slice A l.length c) l := h.own.resolve_left (fun e => by rw [e] at hi; simp at hi)
 obtain ⟨g, cur, rfl, _, hg, hB, h1, h2, h3, h4⟩ := hr.blk (by omega)
 refine ⟨g, cur, rfl, hg, hB, ?_, fun p => ?_⟩
 ·obtain ⟨b, off, y, e, _, hy, hc⟩ := hr.sr.2.at_ hi
  injection e with e
  injection e with e1 e2
  subst e1 e2
  rw [hx] at hy
  injection hy with hy
  subst hy
  have := hc 2 _ rfl
  rwa [show 0 + i * rdE.sz + 2 = i * 3 + 2 from by show 0 + i * 3 + 2 = _; omega] at this
 ·have key : OwnR rdE (w.setCell ⟨g, i * 3 + 2, none⟩ (.int .i64 p)) base (.slice (some ⟨g, 0, none⟩) (l.set i (x.1, x.2.1, p)).length c) (l.set i (x.1, x.2.1, p)) := by
   unfold OwnR
   refine ⟨rdE.flat_length _, .inr ⟨g, c, cur.setIfInBounds (i * 3 + 2) (.int .i64 p), rfl, hg, hB.set_ _ _, by rw [List.length_set]; exact h1, h2, by simpa using h3, ?_⟩⟩
   rw [List.length_set, Array.toList_setIfInBounds, List.take_set, h4, rdE_flat, rdE_flat]
   unfold cellsW
   rw [flat_set p l i x hx, List.map_set]
  exact ⟨.inr key, .inr key⟩
theorem WkAt.putR {w : World} {base B : Nat} {L : Lay} {s : Swp} (h : WkAt w base B L s) {i : Nat} {x : Wr} (hx : s.rd[i]? = some x) :
  ∃ g, L.a3 = some ⟨g, 0, none⟩ ∧ base ≤ g ∧ g < w.heap.size ∧ w.cell? ⟨g, i * 3 + 2, none⟩ = some (.int .i64 x.2.2) ∧ w.frozen? ⟨g, i * 3 + 2, none⟩ = false ∧ ∀ p, WkAt (w.setCell ⟨g, i * 3 + 2, none⟩ (.int .i64 p)) base B L { s with rd := s.rd.set i (x.1, x.2.1, p) } := by
 obtain ⟨g, cur, e, hg, hB, hc, hp⟩ := rdE_put h.own.o3 hx
 refine ⟨g, e, hg, hB.lt, hc, hB.frozen_ _, fun p => ⟨?_, ?_, h.low⟩⟩
 ·have hne : B ≠ g := by
   intro e2
   have h1 := h.blk
   rw [e2] at h1
   unfold Blk at h1 hB
   rw [hB] at h1
   injection h1 with h1
   injection h1 with _ h1
   revert h1
   show ¬ rdE.e = _
   decide
  have := h.blk.far_ (p := ⟨g, i * 3 + 2, none⟩) hne (.int .i64 p)
  unfold swC at this ⊢
  dsimp only
  rw [List.length_set]
  exact this
 ·have x := h.own
  exact ⟨x.o0.farB hB (by decide) _ _, x.o1.farB hB (by decide) _ _, x.o2.farB hB (by decide) _ _, hp p, x.o4.farB hB (by decide) _ _, x.o5.farB hB (by decide) _ _, x.o6.farB hB (by decide) _ _, x.o7.farB hB (by decide) _ _, x.p0, x.p7⟩
theorem release_any (base B : Nat) (L : Lay) (s : Swp) (p : Int) (w : World) (h : WkAt w base B L s) (hf : Few s) (hwf : ∀ v ∈ s.rd, (Lit.int .i64 v.2.2).wf = true) (hok : OkS s) (hp : 1 ≤ p ∧ p ≤ 8) :
  Calls Tryz.prog 98 #[.pointer (some ⟨B, 0, none⟩), .int .i64 p] w fun e w' => e = .returned (.tuple #[.bool ((wtW s).any fun x => decide (x.1 = p)), .int .i64 0]) ∧ (∃ L', WkAt w' base B L' { s with wr := relW s.wr p, rd := relW s.rd p }) ∧ Below base w w' := by
 obtain ⟨a0, c0, a1, c1, a2, c2, a3, c3, a4, c4, a5, c5, a6, c6, a7, c7⟩ := L
 obtain ⟨f0, f1, f2, f3, f4, f5, f6, f7⟩ := hf
 have HK := Lib.hid h
 have HOK := Lib.hid hok
 have HP := Lib.hid hp
 have hlow := h.low
 have hbw : base ≤ w.heap.size := by have := h.lt; omega
 have kB : Blk w B 87 (zkx s a0 c0 a1 c1 a2 c2 a3 c3 a4 c4 a5 c5 a6 c6 a7 c7).toArray := h.blk
 have HWF : Hid ((Lit.int .i64 p).wf = true) := wf_i (by omega)
 have HC := Lib.hid (waiting_any ⟨a0, c0, a1, c1, a2, c2, a3, c3, a4, c4, a5, c5, a6, c6, a7, c7⟩ s w h.own.o2.sr h.own.o3.sr hok.wr hwf f3)
 obtain ⟨T, hT⟩ : ∃ T, ((wtW s).any fun x => decide (x.1 = p)) = T := ⟨_, rfl⟩
 rw [hT]
 have HT0 := Lib.hid hT
 have zB := kB.lt
 clear h hok hp hwf hT
 obtain ⟨q0, q1, q2, q3, q4, q5, q6, q7, q8, q9, q10⟩ := zc11 kB
 go_enter Tryz.func98, Tryz.ntmps98
 go_wp2_with fail
 refine HC.out.mono ?_
 rintro e1 w1 ⟨hb1, ⟨_, M, m, rfl, hM, hMl⟩ | ⟨hw, _⟩⟩
 ·have B1 : Below base w w1 := hb1.mono hbw
  have HK1 := Lib.hid (HK.out.ext hb1)
  have hb1s : base ≤ w1.heap.size := B1.size |> Nat.le_trans hbw
  obtain ⟨o, ho⟩ : ∃ o, lkV (wtV s) p = o := ⟨_, rfl⟩
  have HLK := Lib.hid ho
  have HM := Lib.hid hM
  clear hb1 hM hMl ho q0 q1 q2 q3 q4 q5 q6 q7 q8 q9 q10 kB zB
  cases o with
  | none =>
   have hlk := wtT_look HM.out p HWF.out (v := (false, 0)) (b := false) (by rw [HLK.out]; rfl) (by rw [HLK.out]; rfl)
   have HT : Hid (T = false) := by show _ = _; rw [← HT0.out, any_wtW, HLK.out]; rfl
   have hRW := rel_read HOK.out HP.out (fun m e => by rw [HLK.out] at e; cases e)
   have HRW := Lib.hid hRW
   clear hRW
   go_upto_region 6 with fail
   obtain ⟨V2, hV2⟩ : ∃ V2, w1.alloc (.cells #[.bool false, .int .i64 0] 128) = V2 := ⟨_, rfl⟩
   have kN := za hV2
   have zN := kN.lt
   obtain ⟨n0, -⟩ := zc2 kN
   have BA := zab hV2
   have HK2 := Lib.hid (HK1.out.ext BA)
   have BW2 : Below base w V2 := B1.trans (BA.mono hb1s)
   (try rw [hV2])
   clear hV2 hlk
   have kB2 : Blk V2 B 87 (zkx s a0 c0 a1 c1 a2 c2 a3 c3 a4 c4 a5 c5 a6 c6 a7 c7).toArray := HK2.out.blk
   have zB2 := kB2.lt
   obtain ⟨-, -, -, -, u4, -⟩ := zc11 kB2
   go_wp2_with fail
   clear u4
   go_loopw [53] (fun i wr => ∃ k : Nat, k ≤ s.rd.length ∧ i = .int .i64 k ∧ Hid (WkAt wr base B ⟨a0, c0, a1, c1, a2, c2, a3, c3, a4, c4, a5, c5, a6, c6, a7, c7⟩ { s with rd := relW (s.rd.take k) p ++ s.rd.drop k }) ∧ Below base w wr) (fun i _ => s.rd.length - (intOf i).toNat)
   case atStart => exact ⟨0, by omega, rfl, (by show WkAt _ _ _ _ _; have e : relW (s.rd.take 0) p ++ s.rd.drop 0 = s.rd := (by simp [relW]); rw [e]; exact HK2.out), BW2⟩
   case round =>
    obtain ⟨k, hk, rfl, HW, hb⟩ := hrel
    have kBr : Blk wr B 87 (zkx s a0 c0 a1 c1 a2 c2 a3 c3 a4 c4 a5 c5 a6 c6 a7 c7).toArray := by
     have := HW.out.blk
     unfold swC at this
     dsimp only at this
     rw [rel_len] at this
     exact this
    have zBr := kBr.lt
    obtain ⟨-, -, -, -, u4, -⟩ := zc11 kBr
    by_cases hlt : k < s.rd.length
    ·have i1 : (k : Int) < s.rd.length := by omega
     obtain ⟨x, hx⟩ : ∃ x, s.rd[k]? = some x := ⟨_, List.getElem?_eq_getElem hlt⟩
     have HX := Lib.hid hx
     obtain ⟨g, rfl, hg, hgl, hgc, hgf, hput⟩ := HW.out.putR (rel_at (p := p) hx)
     obtain ⟨x0, x1, x2⟩ := x
     dsimp only at hgc hput
     have HPUT := Lib.hid hput
     clear hx hput
     by_cases e2 : x2 = p
     ·subst e2
      have HN := Lib.hid (rel_hit HX.out rfl)
      go_wp2_with fail
      go_roundw
      case rel =>
       refine ⟨k + 1, by omega, by go_num, ?_, hb.setCell (p := ⟨g, k * 3 + 2, none⟩) hg _⟩
       have := HPUT.out 0
       (try dsimp only at this)
       have e := HN.out
       (try dsimp only at e)
       rw [e] at this
       exact this
      case measure => simp [intOf]; omega
     ·have e2b : (x2 == p) = false := by simpa using e2
      have HN := Lib.hid (rel_miss HX.out e2)
      clear e2
      go_wp2_with fail
      go_roundw
      case rel =>
       refine ⟨k + 1, by omega, by go_num, ?_, hb⟩
       have e := HN.out
       rw [← e]
       exact HW
      case measure => simp [intOf]; omega
    ·obtain rfl : k = s.rd.length := by omega
     go_wp2_with fail
     refine bodyPost_ret (by simp [results, Tryz.results98, go_sem] <;> rfl) rfl ?_
     refine ⟨by rw [HT.out], ⟨⟨a0, c0, a1, c1, a2, c2, a3, c3, a4, c4, a5, c5, a6, c6, a7, c7⟩, ?_⟩, hb⟩
     have := HW.out
     rw [List.take_length, List.drop_length, List.append_nil] at this
     rw [HRW.out]
     exact this
  | some y =>
   obtain ⟨y0, y1⟩ := y
   have hlk := wtT_look HM.out p HWF.out (v := (y0, y1)) (b := true) (by rw [HLK.out]; rfl) (by rw [HLK.out]; rfl)
   have HT : Hid (T = true) := by show _ = _; rw [← HT0.out, any_wtW, HLK.out]; rfl
   obtain ⟨V2, hV2⟩ : ∃ V2, w1.alloc (.cells #[.bool y0, .int .i64 y1] 128) = V2 := ⟨_, rfl⟩
   have kN := za hV2
   have zN := kN.lt
   obtain ⟨n0, -⟩ := zc2 kN
   have BA := zab hV2
   have HK2 := Lib.hid (HK1.out.ext BA)
   have BW2 : Below base w V2 := B1.trans (BA.mono hb1s)
   cases y0 with
   | false =>
    have hRW := rel_read HOK.out HP.out (fun m e => by rw [HLK.out] at e; cases e)
    have HRW := Lib.hid hRW
    clear hRW
    go_upto_region 6 with fail
    (try rw [hV2])
    clear hV2 hlk
    have kB2 : Blk V2 B 87 (zkx s a0 c0 a1 c1 a2 c2 a3 c3 a4 c4 a5 c5 a6 c6 a7 c7).toArray := HK2.out.blk
    have zB2 := kB2.lt
    obtain ⟨-, -, -, -, u4, -⟩ := zc11 kB2
    go_wp2_with fail
    clear u4
    go_loopw [53] (fun i wr => ∃ k : Nat, k ≤ s.rd.length ∧ i = .int .i64 k ∧ Hid (WkAt wr base B ⟨a0, c0, a1, c1, a2, c2, a3, c3, a4, c4, a5, c5, a6, c6, a7, c7⟩ { s with rd := relW (s.rd.take k) p ++ s.rd.drop k }) ∧ Below base w wr) (fun i _ => s.rd.length - (intOf i).toNat)
    case atStart => exact ⟨0, by omega, rfl, (by show WkAt _ _ _ _ _; have e : relW (s.rd.take 0) p ++ s.rd.drop 0 = s.rd := (by simp [relW]); rw [e]; exact HK2.out), BW2⟩
    case round =>
     obtain ⟨k, hk, rfl, HW, hb⟩ := hrel
     have kBr : Blk wr B 87 (zkx s a0 c0 a1 c1 a2 c2 a3 c3 a4 c4 a5 c5 a6 c6 a7 c7).toArray := by
      have := HW.out.blk
      unfold swC at this
      dsimp only at this
      rw [rel_len] at this
      exact this
     have zBr := kBr.lt
     obtain ⟨-, -, -, -, u4, -⟩ := zc11 kBr
     by_cases hlt : k < s.rd.length
     ·have i1 : (k : Int) < s.rd.length := by omega
      obtain ⟨x, hx⟩ : ∃ x, s.rd[k]? = some x := ⟨_, List.getElem?_eq_getElem hlt⟩
      have HX := Lib.hid hx
      obtain ⟨g, rfl, hg, hgl, hgc, hgf, hput⟩ := HW.out.putR (rel_at (p := p) hx)
      obtain ⟨x0, x1, x2⟩ := x
      dsimp only at hgc hput
      have HPUT := Lib.hid hput
      clear hx hput
      by_cases e2 : x2 = p
      ·subst e2
       have HN := Lib.hid (rel_hit HX.out rfl)
       go_wp2_with fail
       go_roundw
       case rel =>
        refine ⟨k + 1, by omega, by go_num, ?_, hb.setCell (p := ⟨g, k * 3 + 2, none⟩) hg _⟩
        have := HPUT.out 0
        (try dsimp only at this)
        have e := HN.out
        (try dsimp only at e)
        rw [e] at this
        exact this
       case measure => simp [intOf]; omega
      ·have e2b : (x2 == p) = false := by simpa using e2
       have HN := Lib.hid (rel_miss HX.out e2)
       clear e2
       go_wp2_with fail
       go_roundw
       case rel =>
        refine ⟨k + 1, by omega, by go_num, ?_, hb⟩
        have e := HN.out
        rw [← e]
        exact HW
       case measure => simp [intOf]; omega
     ·obtain rfl : k = s.rd.length := by omega
      go_wp2_with fail
      refine bodyPost_ret (by simp [results, Tryz.results98, go_sem] <;> rfl) rfl ?_
      refine ⟨by rw [HT.out], ⟨⟨a0, c0, a1, c1, a2, c2, a3, c3, a4, c4, a5, c5, a6, c6, a7, c7⟩, ?_⟩, hb⟩
      have := HW.out
      rw [List.take_length, List.drop_length, List.append_nil] at this
      rw [HRW.out]
      exact this
   | true =>
    obtain ⟨r1, r2⟩ := rel_write HOK.out HP.out HLK.out
    have HR1 := Lib.hid r1
    have HR2 := Lib.hid r2
    clear r1 r2
    go_upto_region 4 with fail
    (try rw [hV2])
    clear hV2 hlk
    have hb2s : base ≤ V2.heap.size := Nat.le_trans hb1s BA.size
    have kB2 : Blk V2 B 87 (zkx s a0 c0 a1 c1 a2 c2 a3 c3 a4 c4 a5 c5 a6 c6 a7 c7).toArray := HK2.out.blk
    have zB2 := kB2.lt
    obtain ⟨-, -, -, u3, -⟩ := zc11 kB2
    have hU := Unclaim_own a2 c2 s.wr p V2 HK2.out.own.o2.sr.sw f2
    rw [HR1.out] at hU
    have HU := Lib.hid hU
    clear hU
    go_wp2_with fail
    refine HU.out.mono ?_
    rintro e3 w3 ⟨A, c, rfl, hcw, hb3, hmine⟩
    dsimp only at hcw hmine
    dsimp only
    have hlen := hcw.2
    have kB3 := kB2.below_ hb3 zB2
    have zB3 := kB3.lt
    clear u3 hcw
    obtain ⟨-, -, -, u3, -⟩ := zc11 kB3
    have uf3 := kB3.frozen_ 3
    go_upto_region 5 with fail
    obtain ⟨W4, hW4⟩ : ∃ W4, w3.setCell ⟨B, 3, none⟩ (.slice A (relW s.wr p).length c) = W4 := ⟨_, rfl⟩
    have K4 : WkAt W4 base B ⟨a0, c0, a1, c1, A, c, a3, c3, a4, c4, a5, c5, a6, c6, a7, c7⟩ { s with wr := relW s.wr p } := by rw [← hW4]; exact HK2.out.writes hb3 (OwnM.of_mine hmine hlen)
    have B4 : Below base w W4 := by rw [← hW4]; exact (BW2.trans (hb3.mono hb2s)).setCell (p := ⟨B, 3, none⟩) hlow _
    have HK4 := Lib.hid K4
    rw [hW4]
    clear hW4 u3 uf3 K4
    go_wp2_with fail
    refine bodyPost_ret (by simp [results, Tryz.results98, go_sem] <;> rfl) rfl ?_
    refine ⟨by rw [HT.out], ⟨⟨a0, c0, a1, c1, A, c, a3, c3, a4, c4, a5, c5, a6, c6, a7, c7⟩, ?_⟩, B4⟩
    rw [HR2.out]
    exact HK4.out
 ·rw [wtok_of HOK.out] at hw
  cases hw
theorem Kill_any (L : Lay) (s : Swp) (p : Int) (w : World) (h : SwA w L s) (hz : TZ w) :
  Calls Tryz.prog 34 #[swV L s, .int .i64 p] w (SwPost (kilW s p).1 [.bool (kilW s p).2.1, .int .i64 (kilW s p).2.2] w) := by
 obtain ⟨a0, c0, a1, c1, a2, c2, a3, c3, a4, c4, a5, c5, a6, c6, a7, c7⟩ := L
 have HA := Lib.hid h
 have HZ := Lib.hid hz
 have HW0 : 0 < w.heap.size := hz.pos
 obtain ⟨Q, hQ⟩ : ∃ Q, kilW s p = Q := ⟨_, rfl⟩
 rw [hQ]
 have HQ := Lib.hid hQ
 clear hQ h hz
 unfold swV swC
 obtain ⟨X, hX⟩ : ∃ X, (w.alloc (.cells (zkx s a0 c0 a1 c1 a2 c2 a3 c3 a4 c4 a5 c5 a6 c6 a7 c7).toArray 35)).alloc (.cells zkz.toArray 35) = X := ⟨_, rfl⟩
 have kX := za1 hX
 have kR := za2 hX
 have BX : Below w.heap.size w X := by rw [← hX]; exact zbl
 obtain ⟨z, hzz⟩ : ∃ z, chkW s = z := ⟨_, rfl⟩
 have HZZ := Lib.hid hzz
 have hC := wCheck_any ⟨a0, c0, a1, c1, a2, c2, a3, c3, a4, c4, a5, c5, a6, c6, a7, c7⟩ s X (HA.out.ext BX) (HZ.out.ext HW0 BX)
 rw [hzz] at hC
 have HC := Lib.hid hC
 clear hC hzz
 have zkX := kX.lt
 obtain ⟨q0, q1, q2, q3, q4, q5, q6, q7, q8, q9, q10⟩ := zc11 kX
 go_enter Tryz.func34, Tryz.ntmps34
 go_wp2_with fail
 (try rw [hX])
 clear hX
 refine HC.out.mono ?_
 rintro e1 w1 ⟨rfl, hb1⟩
 have B1 := zbt BX hb1
 replace kX := kX.below_ hb1 kX.lt
 replace kR := kR.below_ hb1 kR.lt
 clear hb1
 clear zkX q0 q1 q2 q3 q4 q5 q6 q7 q8 q9 q10
 by_cases z0 : z = 0
 ·subst z0
  have HOK : Hid (OkS s) := chkW_ok.1 HZZ.out
  cases d1 : decide (1 ≤ p ∧ p ≤ 8) with
  | false =>
   have HE : Hid (Q = (.zero, false, 2)) := by show _ = _; rw [← HQ.out]; unfold kilW; have := of_decide_eq_false d1; rw [HZZ.out, if_neg (by simp), if_pos (by omega)]
   have ztR := kR.lt
   obtain ⟨t0, t1, t2, t3, t4, t5, t6, t7, t8, t9, t10⟩ := zc11 kR
   obtain ⟨tf0, tf1, tf2, tf3, tf4, tf5, tf6, tf7, tf8, tf9, tf10, -⟩ := zf kR
   go_wp2_with (go_at_call 97; refine (swProc_b _ _ d1 _).mono ?_; rintro e w' ⟨rfl, rfl⟩)
   obtain ⟨W, hW⟩ : ∃ W, setN w1 (w.heap.size + 1) 0 zkz = W := ⟨_, rfl⟩
   have hWn := zs11 hW
   have kW := zsw hW kR
   have bW := zbw hW B1 (by omega)
   rw [hWn]
   clear hWn hW t0 tf0 t1 tf1 t2 tf2 t3 tf3 t4 tf4 t5 tf5 t6 tf6 t7 tf7 t8 tf8 t9 tf9 t10 tf10
   refine bodyPost_ret (by simp [results, Tryz.results34, go_sem, zc11 kW] <;> rfl) rfl ?_
   rw [HE.out]
   exact ⟨.zero, rfl, SwO.zero, bW⟩
  | true =>
   have HP := Lib.hid (of_decide_eq_true d1)
   have HL := Lib.hid (load_any ⟨a0, c0, a1, c1, a2, c2, a3, c3, a4, c4, a5, c5, a6, c6, a7, c7⟩ s w1 (HA.out.sw.ext B1) HA.out.few)
   have zkX := kX.lt
   obtain ⟨q0, q1, q2, q3, q4, q5, q6, q7, q8, q9, q10⟩ := zc11 kX
   go_wp2_with (go_at_call 97; refine (swProc_b _ _ d1 _).mono ?_; rintro e w' ⟨rfl, rfl⟩)
   refine HL.out.mono ?_
   rintro e2 w2 ⟨B, ⟨b0, k0, b1, k1, b2, k2, b3, k3, b4, k4, b5, k5, b6, k6, b7, k7⟩, rfl, K2, hb2⟩
   have HKR : w.heap.size + 1 < w1.heap.size := kR.lt
   have HK2 := Lib.hid K2
   have hBlow : w1.heap.size ≤ B := K2.low
   have kB : Blk w2 B 87 (zkx s b0 k0 b1 k1 b2 k2 b3 k3 b4 k4 b5 k5 b6 k6 b7 k7).toArray := K2.blk
   have hbL : w1.heap.size ≤ w2.heap.size := hb2.size
   have B2 := zbt B1 hb2
   replace kX := kX.below_ hb2 kX.lt
   replace kR := kR.below_ hb2 kR.lt
   clear hb2
   clear zkX q0 q1 q2 q3 q4 q5 q6 q7 q8 q9 q10
   clear K2
   have hRL := Lib.hid (release_any w1.heap.size B ⟨b0, k0, b1, k1, b2, k2, b3, k3, b4, k4, b5, k5, b6, k6, b7, k7⟩ s p w2 HK2.out HA.out.few HA.out.wf HOK.out HP.out)
   obtain ⟨T, hT⟩ : ∃ T, ((wtW s).any fun x => decide (x.1 = p)) = T := ⟨_, rfl⟩
   rw [hT] at hRL
   have HE : Hid (Q = ({ s with wr := relW s.wr p, rd := relW s.rd p }, T, 0)) := by show _ = _; rw [← HQ.out]; unfold kilW; have := HP.out; rw [HZZ.out, if_neg (by simp), if_neg (by omega), hT]
   clear hT HK2 kB
   go_wp2_with fail
   refine hRL.out.mono ?_
   rintro e5 w5 ⟨rfl, ⟨⟨b0, k0, b1, k1, b2, k2, b3, k3, b4, k4, b5, k5, b6, k6, b7, k7⟩, K5⟩, hb5⟩
   obtain ⟨S5, hS5⟩ : ∃ S5, ({ s with wr := relW s.wr p, rd := relW s.rd p } : Swp) = S5 := ⟨_, rfl⟩
   rw [hS5] at K5 HE
   have kB6 : Blk w5 B 87 (zkx S5 b0 k0 b1 k1 b2 k2 b3 k3 b4 k4 b5 k5 b6 k6 b7 k7).toArray := K5.blk
   have HO5 := Lib.hid K5.own
   have kR5 := kR.below_ hb5 HKR
   have B5 : Below w.heap.size w w5 := B2.trans (hb5.mono (by have := B1.size; omega))
   clear K5 hS5
   have ztR := kR5.lt
   have ztB := kB6.lt
   obtain ⟨t0, t1, t2, t3, t4, t5, t6, t7, t8, t9, t10⟩ := zc11 kR5
   obtain ⟨tf0, tf1, tf2, tf3, tf4, tf5, tf6, tf7, tf8, tf9, tf10, -⟩ := zf kR5
   obtain ⟨u0, u1, u2, u3, u4, u5, u6, u7, u8, u9, u10⟩ := zc11 kB6
   go_wp2_with fail
   obtain ⟨W, hW⟩ : ∃ W, setN w5 (w.heap.size + 1) 0 (zkx S5 b0 k0 b1 k1 b2 k2 b3 k3 b4 k4 b5 k5 b6 k6 b7 k7) = W := ⟨_, rfl⟩
   have hWn := zs11 hW
   have kW := zsw hW kR5
   have bW := zbw hW B5 (by omega)
   have oW : SwO W w1.heap.size ⟨b0, k0, b1, k1, b2, k2, b3, k3, b4, k4, b5, k5, b6, k6, b7, k7⟩ S5 := by rw [← hW]; exact HO5.out.farN HKR _
   rw [hWn]
   clear hWn hW t0 tf0 t1 tf1 t2 tf2 t3 tf3 t4 tf4 t5 tf5 t6 tf6 t7 tf7 t8 tf8 t9 tf9 t10 tf10
   refine bodyPost_ret (by simp [results, Tryz.results34, go_sem, zc11 kW] <;> rfl) rfl ?_
   rw [HE.out]
   exact ⟨⟨b0, k0, b1, k1, b2, k2, b3, k3, b4, k4, b5, k5, b6, k6, b7, k7⟩, rfl, oW.base_ (by have := B1.size; have := B5.size; omega), bW⟩
 ·have HE : Hid (Q = (.zero, false, z)) := by show _ = _; rw [← HQ.out]; unfold kilW; rw [HZZ.out, if_pos (by simpa using z0)]
  have zb : (z != 0) = true := by simpa using z0
  clear z0
  have ztR := kR.lt
  obtain ⟨t0, t1, t2, t3, t4, t5, t6, t7, t8, t9, t10⟩ := zc11 kR
  obtain ⟨tf0, tf1, tf2, tf3, tf4, tf5, tf6, tf7, tf8, tf9, tf10, -⟩ := zf kR
  go_wp2_with fail
  obtain ⟨W, hW⟩ : ∃ W, setN w1 (w.heap.size + 1) 0 zkz = W := ⟨_, rfl⟩
  have hWn := zs11 hW
  have kW := zsw hW kR
  have bW := zbw hW B1 (by omega)
  rw [hWn]
  clear hWn hW t0 tf0 t1 tf1 t2 tf2 t3 tf3 t4 tf4 t5 tf5 t6 tf6 t7 tf7 t8 tf8 t9 tf9 t10 tf10
  refine bodyPost_ret (by simp [results, Tryz.results34, go_sem, zc11 kW] <;> rfl) rfl ?_
  rw [HE.out]
  exact ⟨.zero, rfl, SwO.zero, bW⟩
end Go.Proofs.YthijbipidbjpfaaGreatDoor
