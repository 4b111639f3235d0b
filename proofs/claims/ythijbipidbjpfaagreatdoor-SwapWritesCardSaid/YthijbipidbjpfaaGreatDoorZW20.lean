import Derived.Test.YthijbipidbjpfaaGreatDoorZW19
import Derived.Test.YthijbipidbjpfaaGreatDoorZW00
import Derived.Test.YthijbipidbjpfaaGreatDoorZW03
import Derived.Test.YthijbipidbjpfaaGreatDoorZW13
import Derived.Test.YthijbipidbjpfaaGreatDoorZW14
import Derived.Test.YthijbipidbjpfaaGreatDoorZW04
import Derived.Test.YthijbipidbjpfaaGreatDoorZW06
import Derived.Test.YthijbipidbjpfaaGreatDoorZW17
set_option linter.unusedSimpArgs false
set_option linter.unusedVariables false
set_option maxRecDepth 100000
set_option maxHeartbeats 8000000
namespace Go.Proofs.YthijbipidbjpfaaGreatDoor
open Go.RowKit Go.Maps
theorem SwNew_any (N room most : Int) (w : World) (hn : N ≤ 40 ∨ 256 < N) : Calls Tryz.prog 22 #[.int .i64 N, .int .i64 room, .int .i64 most] w (SwPost (newW N room most).1 [.int .i64 (newW N room most).2] w) := by
 obtain ⟨Q, hQ⟩ : ∃ Q, newW N room most = Q := ⟨_, rfl⟩
 rw [hQ]
 have HQ := Lib.hid hQ
 have HN := Lib.hid hn
 clear hQ hn
 obtain ⟨X, hX⟩ : ∃ X, w.alloc (.cells zkz.toArray 35) = X := ⟨_, rfl⟩
 have kR := za hX
 have BX : Below w.heap.size w X := by rw [← hX]; exact zbl
 have hXs0 : w.heap.size < X.heap.size := kR.lt
 by_cases m0 : most < 1
 ·/- too few -/
  have HE : Hid (Q = (.zero, 2)) := by show _ = _; rw [← HQ.out]; unfold newW; rw [if_pos (.inl m0)]
  have m0b : decide (most < 1) = true := by simpa using m0
  clear m0
  go_enter Tryz.func22, Tryz.ntmps22
  have ztR := kR.lt
  obtain ⟨t0, t1, t2, t3, t4, t5, t6, t7, t8, t9, t10⟩ := zc11 kR
  obtain ⟨tf0, tf1, tf2, tf3, tf4, tf5, tf6, tf7, tf8, tf9, tf10, -⟩ := zf kR
  go_wp2_with fail
  obtain ⟨W, hW⟩ : ∃ W, setN X (w.heap.size) 0 zkz = W := ⟨_, rfl⟩
  have hWn := zs11 hW
  have kW := zsw hW kR
  have bW := zbw hW BX (by omega)
  rw [hWn]
  clear hWn hW t0 tf0 t1 tf1 t2 tf2 t3 tf3 t4 tf4 t5 tf5 t6 tf6 t7 tf7 t8 tf8 t9 tf9 t10 tf10
  refine bodyPost_ret (by simp [results, Tryz.results22, go_sem, zc11 kW] <;> rfl) rfl ?_
  rw [HE.out]
  exact ⟨.zero, rfl, SwO.zero, bW⟩
 ·have m0b : decide (most < 1) = false := by simpa using m0
  by_cases m1 : 16 < most
  ·/- too many -/
   have HE : Hid (Q = (.zero, 2)) := by show _ = _; rw [← HQ.out]; unfold newW; rw [if_pos (.inr m1)]
   have m1b : decide (most > 16) = true := by simpa using m1
   clear m0 m1
   go_enter Tryz.func22, Tryz.ntmps22
   have ztR := kR.lt
   obtain ⟨t0, t1, t2, t3, t4, t5, t6, t7, t8, t9, t10⟩ := zc11 kR
   obtain ⟨tf0, tf1, tf2, tf3, tf4, tf5, tf6, tf7, tf8, tf9, tf10, -⟩ := zf kR
   go_wp2_with fail
   obtain ⟨W, hW⟩ : ∃ W, setN X (w.heap.size) 0 zkz = W := ⟨_, rfl⟩
   have hWn := zs11 hW
   have kW := zsw hW kR
   have bW := zbw hW BX (by omega)
   rw [hWn]
   clear hWn hW t0 tf0 t1 tf1 t2 tf2 t3 tf3 t4 tf4 t5 tf5 t6 tf6 t7 tf7 t8 tf8 t9 tf9 t10 tf10
   refine bodyPost_ret (by simp [results, Tryz.results22, go_sem, zc11 kW] <;> rfl) rfl ?_
   rw [HE.out]
   exact ⟨.zero, rfl, SwO.zero, bW⟩
  ·have m1b : decide (most > 16) = false := by simpa using m1
   have HM : Hid (¬ (most < 1 ∨ 16 < most)) := fun h => h.elim m0 m1
   clear m0 m1
   obtain ⟨⟨T, zt⟩, hT⟩ : ∃ t, newT N = t := ⟨_, rfl⟩
   obtain ⟨⟨D, zd⟩, hD⟩ : ∃ t, newD N room = t := ⟨_, rfl⟩
   obtain ⟨⟨P, zp⟩, hP⟩ : ∃ t, newP room = t := ⟨_, rfl⟩
   have HT := Lib.hid hT
   have HD := Lib.hid hD
   have HP := Lib.hid hP
   have hC1 := sNew_any N X HN.out
   rw [hT] at hC1
   have HC1 := Lib.hid hC1
   clear hT hD hP hC1
   go_enter Tryz.func22, Tryz.ntmps22
   go_wp2_with fail
   (try rw [hX])
   clear hX m0b m1b
   refine HC1.out.mono ?_
   rintro e1 w1 ⟨A, c, A1, c1, rfl, oI, oB, hb1⟩
   unfold stV
   dsimp only
   replace kR := kR.below_ hb1 kR.lt
   have B1 := zbt BX hb1
   have hXs := BX.size
   have hs1 := hb1.size
   clear hb1
   go_upto_region 4 with fail
   obtain ⟨V1, hV1⟩ : ∃ V, w1.alloc (.cells #[.slice A T.refs.length c, .slice A1 T.busy.length c1] 25) = V := ⟨_, rfl⟩
   have kS := za hV1
   have BA1 := zab hV1
   have HI1 := Lib.hid (oI.ext BA1)
   have HB1 := Lib.hid (oB.ext BA1)
   replace kR := kR.below_ BA1 kR.lt
   have B2 := zbt B1 BA1
   rw [hV1]
   have hs1a := BA1.size
   clear hV1 oI oB BA1
   by_cases t0 : zt = 0
   ·subst t0
    have hC2 := dNew_any N room V1 HN.out
    rw [HD.out] at hC2
    have HC2 := Lib.hid hC2
    clear hC2
    go_wp2_with fail
    refine HC2.out.mono ?_
    rintro e2 w2 ⟨A5, c5, A6, c6, rfl, oC, oJ, hb2⟩
    unfold dkV
    dsimp only at oC oJ
    dsimp only
    replace kR := kR.below_ hb2 kR.lt
    replace kS := kS.below_ hb2 kS.lt
    have HI2 := Lib.hid (HI1.out.ext hb2)
    have HB2 := Lib.hid (HB1.out.ext hb2)
    have B3 := zbt B2 hb2
    have hV1s := B2.size
    have hs2 := hb2.size
    clear hb2
    go_upto_region 7 with fail
    obtain ⟨V2, hV2⟩ : ∃ V, w2.alloc (.cells #[.slice A5 D.cells.length c5, .slice A6 D.jobs.length c6, .int .i64 D.room] 31) = V := ⟨_, rfl⟩
    have kD := za hV2
    have BA2 := zab hV2
    have HI3 := Lib.hid (HI2.out.ext BA2)
    have HB3 := Lib.hid (HB2.out.ext BA2)
    have HC3 := Lib.hid (oC.ext BA2)
    have HJ3 := Lib.hid (oJ.ext BA2)
    replace kR := kR.below_ BA2 kR.lt
    replace kS := kS.below_ BA2 kS.lt
    have B4 := zbt B3 BA2
    rw [hV2]
    have hs2a := BA2.size
    clear hV2 oC oJ BA2
    by_cases d0 : zd = 0
    ·subst d0
     have hC3 := pNew_any room V2
     rw [HP.out] at hC3
     have HC4 := Lib.hid hC3
     clear hC3
     go_wp2_with fail
     refine HC4.out.mono ?_
     rintro e3 w3 ⟨A7, c7, rfl, oP, hb3⟩
     unfold poV
     dsimp only at oP
     dsimp only
     replace kR := kR.below_ hb3 kR.lt
     replace kS := kS.below_ hb3 kS.lt
     replace kD := kD.below_ hb3 kD.lt
     have HI4 := Lib.hid (HI3.out.ext hb3)
     have HB4 := Lib.hid (HB3.out.ext hb3)
     have HC5 := Lib.hid (HC3.out.ext hb3)
     have HJ4 := Lib.hid (HJ3.out.ext hb3)
     have B5 := zbt B4 hb3
     have hV2s := B4.size
     have hs3 := hb3.size
     clear hb3
     go_upto_region 10 with fail
     obtain ⟨V3, hV3⟩ : ∃ V, w3.alloc (.cells #[.int .i64 P.size, .slice A7 P.free.length c7] 33) = V := ⟨_, rfl⟩
     have kP := za hV3
     have BA3 := zab hV3
     have HI5 := Lib.hid (HI4.out.ext BA3)
     have HB5 := Lib.hid (HB4.out.ext BA3)
     have HC6 := Lib.hid (HC5.out.ext BA3)
     have HJ5 := Lib.hid (HJ4.out.ext BA3)
     have HP5 := Lib.hid (oP.ext BA3)
     replace kR := kR.below_ BA3 kR.lt
     replace kS := kS.below_ BA3 kS.lt
     replace kD := kD.below_ BA3 kD.lt
     have B6 := zbt B5 BA3
     rw [hV3]
     clear hV3 oP BA3
     by_cases p0 : zp = 0
     ·subst p0
      have HE : Hid (Q = ((⟨most, T, [], [], [], D, P⟩ : Swp), 0)) := by show _ = _; rw [← HQ.out]; unfold newW; rw [if_neg HM.out, HT.out, if_neg (by simp), HD.out, if_neg (by simp), HP.out, if_neg (by simp)]
      have zS := kS.lt
      have zD := kD.lt
      have zP := kP.lt
      obtain ⟨s0, s1⟩ := zc2 kS
      obtain ⟨d0, d1, d2⟩ := zc3 kD
      obtain ⟨p0, p1⟩ := zc2 kP
      have hRs : w.heap.size < X.heap.size := hXs0
      have HO : Hid (SwO V3 X.heap.size ⟨A, c, A1, c1, none, 0, none, 0, none, 0, A5, c5, A6, c6, A7, c7⟩ (⟨most, T, [], [], [], D, P⟩ : Swp)) := ⟨HI5.out, HB5.out, OwnE.nil.mn, OwnE.nil, OwnE.nil, HC6.out.base_ (by omega), HJ5.out.base_ (by omega), HP5.out.base_ (by omega), fun _ h => absurd rfl h, fun _ h => absurd rfl h⟩
      have ztR := kR.lt
      obtain ⟨t0, t1, t2, t3, t4, t5, t6, t7, t8, t9, t10⟩ := zc11 kR
      obtain ⟨tf0, tf1, tf2, tf3, tf4, tf5, tf6, tf7, tf8, tf9, tf10, -⟩ := zf kR
      go_wp2_with fail
      obtain ⟨W, hW⟩ : ∃ W, setN V3 (w.heap.size) 0 [.int .i64 most, .slice A T.refs.length c, .slice A1 T.busy.length c1, .slice none 0 0, .slice none 0 0, .slice none 0 0, .slice A5 D.cells.length c5, .slice A6 D.jobs.length c6, .int .i64 D.room, .int .i64 P.size, .slice A7 P.free.length c7] = W := ⟨_, rfl⟩
      have hWn := zs11 hW
      have kW := zsw hW kR
      have bW : Below w.heap.size w W := by rw [← hW]; exact below_setN B6 (Nat.le_refl _) _
      have oW : SwO W X.heap.size ⟨A, c, A1, c1, none, 0, none, 0, none, 0, A5, c5, A6, c6, A7, c7⟩ (⟨most, T, [], [], [], D, P⟩ : Swp) := by rw [← hW]; exact HO.out.farN hRs _
      rw [hWn]
      clear hWn hW t0 tf0 t1 tf1 t2 tf2 t3 tf3 t4 tf4 t5 tf5 t6 tf6 t7 tf7 t8 tf8 t9 tf9 t10 tf10
      refine bodyPost_ret (by simp [results, Tryz.results22, go_sem, zc11 kW] <;> rfl) rfl ?_
      rw [HE.out]
      exact ⟨⟨A, c, A1, c1, none, 0, none, 0, none, 0, A5, c5, A6, c6, A7, c7⟩, rfl, oW.base_ (by omega), bW⟩
     ·have HE : Hid (Q = (.zero, zp)) := by show _ = _; rw [← HQ.out]; unfold newW; rw [if_neg HM.out, HT.out, if_neg (by simp), HD.out, if_neg (by simp), HP.out, if_pos (by simpa using p0)]
      have yb : (zp != 0) = true := by simpa using p0
      clear p0
      have ztR := kR.lt
      obtain ⟨t0, t1, t2, t3, t4, t5, t6, t7, t8, t9, t10⟩ := zc11 kR
      obtain ⟨tf0, tf1, tf2, tf3, tf4, tf5, tf6, tf7, tf8, tf9, tf10, -⟩ := zf kR
      go_wp2_with fail
      obtain ⟨W, hW⟩ : ∃ W, setN V3 (w.heap.size) 0 zkz = W := ⟨_, rfl⟩
      have hWn := zs11 hW
      have kW := zsw hW kR
      have bW := zbw hW B6 (by omega)
      rw [hWn]
      clear hWn hW t0 tf0 t1 tf1 t2 tf2 t3 tf3 t4 tf4 t5 tf5 t6 tf6 t7 tf7 t8 tf8 t9 tf9 t10 tf10
      refine bodyPost_ret (by simp [results, Tryz.results22, go_sem, zc11 kW] <;> rfl) rfl ?_
      rw [HE.out]
      exact ⟨.zero, rfl, SwO.zero, bW⟩
    ·have HE : Hid (Q = (.zero, zd)) := by show _ = _; rw [← HQ.out]; unfold newW; rw [if_neg HM.out, HT.out, if_neg (by simp), HD.out, if_pos (by simpa using d0)]
     have yb : (zd != 0) = true := by simpa using d0
     clear d0
     have ztR := kR.lt
     obtain ⟨t0, t1, t2, t3, t4, t5, t6, t7, t8, t9, t10⟩ := zc11 kR
     obtain ⟨tf0, tf1, tf2, tf3, tf4, tf5, tf6, tf7, tf8, tf9, tf10, -⟩ := zf kR
     go_wp2_with fail
     obtain ⟨W, hW⟩ : ∃ W, setN V2 (w.heap.size) 0 zkz = W := ⟨_, rfl⟩
     have hWn := zs11 hW
     have kW := zsw hW kR
     have bW := zbw hW B4 (by omega)
     rw [hWn]
     clear hWn hW t0 tf0 t1 tf1 t2 tf2 t3 tf3 t4 tf4 t5 tf5 t6 tf6 t7 tf7 t8 tf8 t9 tf9 t10 tf10
     refine bodyPost_ret (by simp [results, Tryz.results22, go_sem, zc11 kW] <;> rfl) rfl ?_
     rw [HE.out]
     exact ⟨.zero, rfl, SwO.zero, bW⟩
   ·have HE : Hid (Q = (.zero, zt)) := by show _ = _; rw [← HQ.out]; unfold newW; rw [if_neg HM.out, HT.out, if_pos (by simpa using t0)]
    have yb : (zt != 0) = true := by simpa using t0
    clear t0
    have ztR := kR.lt
    obtain ⟨t0, t1, t2, t3, t4, t5, t6, t7, t8, t9, t10⟩ := zc11 kR
    obtain ⟨tf0, tf1, tf2, tf3, tf4, tf5, tf6, tf7, tf8, tf9, tf10, -⟩ := zf kR
    go_wp2_with fail
    obtain ⟨W, hW⟩ : ∃ W, setN V1 (w.heap.size) 0 zkz = W := ⟨_, rfl⟩
    have hWn := zs11 hW
    have kW := zsw hW kR
    have bW := zbw hW B2 (by omega)
    rw [hWn]
    clear hWn hW t0 tf0 t1 tf1 t2 tf2 t3 tf3 t4 tf4 t5 tf5 t6 tf6 t7 tf7 t8 tf8 t9 tf9 t10 tf10
    refine bodyPost_ret (by simp [results, Tryz.results22, go_sem, zc11 kW] <;> rfl) rfl ?_
    rw [HE.out]
    exact ⟨.zero, rfl, SwO.zero, bW⟩
theorem Few.of_ok {s : Swp} (h : OkS s) (hr : s.sl.refs.length ≤ 40) : Few s := by
 have h1 := h.sl.blen
 have h2 := h.wr.1
 have h3 := jobs_len h
 have h4 := h.dk.few
 have h5 := h.dk.room
 have h6 := h.dlen
 have h7 := h.len
 have h8 := h.po.len
 exact ⟨hr, by omega, by omega, by omega, by omega, by omega, by omega, by omega⟩
theorem SwA.of {w : World} {L : Lay} {s : Swp} (h : SwR w L s) (hok : OkS s) (hr : s.sl.refs.length ≤ 40) : SwA w L s := by
 refine ⟨h, Few.of_ok hok hr, fun v hv => ?_⟩
 by_cases e : v.2.2 = 0
 ·rw [e]; exact wf_i (by omega)
 ·have hm : (v.2.2, v.1) ∈ wtW s := by
   rw [wtW_eq]
   exact List.mem_append_right _ (wtL_mem.2 ⟨v, hv, rfl, rfl, e⟩)
  have := hok.wtr _ hm
  exact wf_i (by dsimp only at this; omega)
def xC : Ct := ⟨1, 2, 3, 4, 5, 6, 7, 9223372036854775808⟩
theorem x_any (w : World) : Calls Tryz.prog 36 #[] w fun e w' => e = .returned (ctV xC) ∧ Below w.heap.size w w' := by
 go_enter Tryz.func36, Tryz.ntmps36
 go_wp2_with fail
 obtain ⟨W, hW⟩ : ∃ V, w.alloc (.cells (zkk 1 2 3 4 5 6 7 9223372036854775808).toArray 38) = V := ⟨_, rfl⟩
 have kW := za hW
 have bW : Below w.heap.size w W := by rw [← hW]; exact zbl
 rw [hW]
 clear hW
 refine bodyPost_ret (by simp [results, Tryz.results36, go_sem, zc8 kW] <;> rfl) rfl ?_
 exact ⟨rfl, bW⟩
theorem eq_rd (w : World) (x y : Wr) : (Op.equal 100 (.agg #[.int .i64 x.1, .int .i64 x.2.1, .int .i64 x.2.2]) (.agg #[.int .i64 y.1, .int .i64 y.2.1, .int .i64 y.2.2])).run Tryz.prog w = .ok (decide (x = y)) w := by
 have hs : Tryz.prog.stoodInHeld 100 = false := by kernel_rfl
 obtain ⟨a, b, c⟩ := x
 obtain ⟨d, e, f⟩ := y
 have h0 := part_int w #[.int .i64 a, .int .i64 b, .int .i64 c] 0 (.int .i64 a) rfl
 have h1 := part_int w #[.int .i64 a, .int .i64 b, .int .i64 c] 1 (.int .i64 b) rfl
 have h2 := part_int w #[.int .i64 a, .int .i64 b, .int .i64 c] 2 (.int .i64 c) rfl
 have h3 := part_int w #[.int .i64 d, .int .i64 e, .int .i64 f] 0 (.int .i64 d) rfl
 have h4 := part_int w #[.int .i64 d, .int .i64 e, .int .i64 f] 1 (.int .i64 e) rfl
 have h5 := part_int w #[.int .i64 d, .int .i64 e, .int .i64 f] 2 (.int .i64 f) rfl
 have e1 := eqIn_int w 9998 a d
 have e2 := eqIn_int w 9998 b e
 have e3 := eqIn_int w 9998 c f
 unfold Op.equal
 show (Op.equalIn (9999 + 1) _ _ _).run _ _ = _
 unfold Op.equalIn
 simp only [Sem.run_bind, run_underlying Tryz.underlying100, Result.andThen_ok]
 simp [hs, h0, h1, h2, h3, h4, h5, e1, e2, e3]
 by_cases h : a = d <;> by_cases h' : b = e <;> by_cases h'' : c = f <;> simp [h, h', h'']
theorem eqIn_ct (w : World) (a b : Ct) : (Op.equalIn 9999 38 (ctV a) (ctV b)).run Tryz.prog w = .ok (decide (a = b)) w := by
 obtain ⟨i, hi⟩ : ∃ i, Tryz.prog.info? 36 = some i := Option.isSome_iff_exists.1 (by kernel_rfl)
 have hc : Tryz.prog.cellsOf 36 = 1 := by kernel_rfl
 have h := eqItems_u64 w 9997 (ctL a) (ctL b) [] [] rfl rfl
 have e : decide (ctL a = ctL b) = decide (a = b) := by rw [decide_eq_decide]; exact ctL_inj
 rw [e] at h
 show (Op.equalIn (9998 + 1) _ (.agg _) (.agg _)).run _ _ = _
 rw [run_equalIn_array w 9998 _ _ Tryz.underlying38 hi, hc]
 exact h
def kn0 : Swp := (newW 2 3 1).1
def kn1 : Swp := (wrtW kn0 5 2 xC).1
def kn2 : Swp := (claW kn1 0 3).1
def kn3 : Swp := (cmpW kn2 0).1
def kd3 : Dn := ⟨⟨true, 0, 5, xC⟩, 3⟩
theorem kn_new : newW 2 3 1 = (kn0, 0) := by decide +kernel
theorem kn_w1 : wrtW kn0 5 2 xC = (kn1, 0, 0) := by decide +kernel
theorem kn_h1 : hinE kn1 = ([2], 0) := by decide +kernel
theorem kn_c2 : claW kn1 0 3 = (kn2, 0) := by decide +kernel
theorem kn_c3 : cmpW kn2 0 = (kn3, kd3, 0) := by decide +kernel
theorem kn_ok0 : OkS kn0 := chkW_ok.1 (by decide +kernel)
theorem kn_ok1 : OkS kn1 := chkW_ok.1 (by decide +kernel)
theorem kn_ok2 : OkS kn2 := chkW_ok.1 (by decide +kernel)
theorem kn_ok3 : OkS kn3 := chkW_ok.1 (by decide +kernel)
theorem kn_l0 : kn0.sl.refs.length ≤ 40 := by decide +kernel
theorem kn_l1 : kn1.sl.refs.length ≤ 40 := by decide +kernel
theorem kn_l2 : kn2.sl.refs.length ≤ 40 := by decide +kernel
theorem kn_l3 : kn3.sl.refs.length ≤ 40 := by decide +kernel
theorem kn_refs3 : kn3.sl.refs = [1, 0] := by decide +kernel
theorem kn_chk3 : chkW kn3 = 0 := by decide +kernel
def SwF (S : Swp) (z : List Value) (v : Value) (lo _hi : Nat) (w : World) : Prop := ∃ L, v = .tuple (swV L S :: z).toArray ∧ SwO w lo L S
theorem SwF.lasts (S : Swp) (z : List Value) : (Fk.has (SwF S z)).lasts := fun _ _ _ _ _ ⟨L, e, h⟩ hb => ⟨L, e, h.ext hb⟩
theorem SwO.farT {w : World} {base b : Nat} {L : Lay} {s : Swp} {cs : Array Value} (h : SwO w base L s) (hb : Blk w b 35 cs) (vs : List Value) : SwO (setN w b 0 vs) base L s :=
 ⟨h.o0.farBN vs hb (by decide), h.o1.farBN vs hb (by decide), h.o2.lift fun o => o.farBN vs hb (by decide), h.o3.farBN vs hb (by decide), h.o4.farBN vs hb (by decide), h.o5.farBN vs hb (by decide), h.o6.farBN vs hb (by decide), h.o7.farBN vs hb (by decide), h.p0, h.p7⟩
theorem SameInts_any (A B : Option Addr) (c d : Nat) (xs ys : List Int) (w : World) (ha : Sl w (.int .i64) A xs) (hb : Sl w (.int .i64) B ys) (la : xs.length ≤ 100000) (lb : ys.length ≤ 100000) :
  Calls Tryz.prog 20 #[.slice A xs.length c, .slice B ys.length d] w fun e w' => e = .returned (.bool (decide (xs = ys))) ∧ Below w.heap.size w w' := by
 have HA := Lib.hid ha; have HB := Lib.hid hb
 clear ha hb
 by_cases hl : xs.length = ys.length
 ·have hl' : ((xs.length : Int) != ys.length) = false := by simp [hl]
  have HL := Lib.hid hl
  have h1 : xs.length ≤ ys.length := by omega
  have h2 : ys.length ≤ xs.length := by omega
  clear hl
  go_enter Tryz.func20, Tryz.ntmps20
  go_wp2
  go_loopw [5] (fun i wr => ∃ k : Nat, k ≤ xs.length ∧ i = .int .i64 k ∧ Hid (∀ m : Nat, m < k → xs[m]? = ys[m]?) ∧ Below w.heap.size w wr) (fun i _ => xs.length - (intOf i).toNat)
  case atStart => exact ⟨0, by omega, rfl, fun m hm => absurd hm (by omega), Below.refl _ _⟩
  case round =>
   obtain ⟨k, hk, rfl, HK, hbw⟩ := hrel
   by_cases hlt : k < xs.length
   ·obtain ⟨b, off, x, rfl, hbl, hx, hc⟩ := (HA.out.ext hbw).at_ hlt
    obtain ⟨b', off', y, rfl, hbl', hy, hc'⟩ := (HB.out.ext hbw).at_ (show k < ys.length by omega)
    have hlt' : k < ys.length := by omega
    have i1 : (k : Int) < xs.length := by omega
    have i2 : (k : Int) < ys.length := by omega
    have HX := Lib.hid hx; have HY := Lib.hid hy
    clear hx hy
    by_cases e : x = y
    ·subst e
     go_wp2
     go_quiet (fail)
     go_wp2
     go_roundw
     case rel =>
      refine ⟨k + 1, by omega, by go_num, fun m hm => ?_, zbl⟩
      rcases (by omega : m < k ∨ m = k) with h | rfl
      ·exact HK.out m h
      ·exact HX.out.trans HY.out.symm
     case measure => simp [intOf]; omega
    ·have he : (x != y) = true := by simpa using e
     have HD : Hid (decide (xs = ys) = false) := by
      show _ = _
      refine decide_eq_false (fun h => e ?_)
      subst h
      have := HX.out.symm.trans HY.out
      injection this
     clear e
     go_wp2
     go_quiet (fail)
     go_wp2
     go_ret
     exact ⟨ret_bool HD.out.symm, zbl⟩
   ·have HD : Hid (decide (xs = ys) = true) := by
     show _ = _
     refine decide_eq_true (List.ext_getElem? fun m => ?_)
     rcases (by omega : m < k ∨ k ≤ m) with h | h
     ·exact HK.out m h
     ·rw [List.getElem?_eq_none (by omega), List.getElem?_eq_none (by omega)]
    go_wp2
    go_ret
    exact ⟨ret_bool HD.out.symm, zbl⟩
 ·have hl' : ((xs.length : Int) != ys.length) = true := by simp; omega
  have HD : Hid (decide (xs = ys) = false) := by
   show _ = _
   exact decide_eq_false (fun h => hl (by rw [h]))
  clear hl
  go_enter Tryz.func20, Tryz.ntmps20
  go_wp2
  go_ret
  exact ⟨ret_bool HD.out.symm, zbl⟩
theorem SameBools_any (A B : Option Addr) (c d : Nat) (xs ys : List Bool) (w : World) (ha : Sl w .bool A xs) (hb : Sl w .bool B ys) (la : xs.length ≤ 100000) (lb : ys.length ≤ 100000) :
  Calls Tryz.prog 135 #[.slice A xs.length c, .slice B ys.length d] w fun e w' => e = .returned (.bool (decide (xs = ys))) ∧ Below w.heap.size w w' := by
 have HA := Lib.hid ha; have HB := Lib.hid hb
 clear ha hb
 by_cases hl : xs.length = ys.length
 ·have hl' : ((xs.length : Int) != ys.length) = false := by simp [hl]
  have HL := Lib.hid hl
  have h1 : xs.length ≤ ys.length := by omega
  have h2 : ys.length ≤ xs.length := by omega
  clear hl
  go_enter Tryz.func135, Tryz.ntmps135
  go_wp2
  go_loopw [5] (fun i wr => ∃ k : Nat, k ≤ xs.length ∧ i = .int .i64 k ∧ Hid (∀ m : Nat, m < k → xs[m]? = ys[m]?) ∧ Below w.heap.size w wr) (fun i _ => xs.length - (intOf i).toNat)
  case atStart => exact ⟨0, by omega, rfl, fun m hm => absurd hm (by omega), Below.refl _ _⟩
  case round =>
   obtain ⟨k, hk, rfl, HK, hbw⟩ := hrel
   by_cases hlt : k < xs.length
   ·obtain ⟨b, off, x, rfl, hbl, hx, hc⟩ := (HA.out.ext hbw).at_ hlt
    obtain ⟨b', off', y, rfl, hbl', hy, hc'⟩ := (HB.out.ext hbw).at_ (show k < ys.length by omega)
    have hlt' : k < ys.length := by omega
    have i1 : (k : Int) < xs.length := by omega
    have i2 : (k : Int) < ys.length := by omega
    have HX := Lib.hid hx; have HY := Lib.hid hy
    clear hx hy
    by_cases e : x = y
    ·subst e
     cases x
     all_goals
      go_wp2
      go_quiet (fail)
      go_wp2
      go_roundw
      case rel =>
       refine ⟨k + 1, by omega, by go_num, fun m hm => ?_, zbl⟩
       rcases (by omega : m < k ∨ m = k) with h | rfl
       ·exact HK.out m h
       ·exact HX.out.trans HY.out.symm
      case measure => simp [intOf]; omega
    ·have he : (x != y) = true := by simpa using e
     have HD : Hid (decide (xs = ys) = false) := by
      show _ = _
      refine decide_eq_false (fun h => e ?_)
      subst h
      have := HX.out.symm.trans HY.out
      injection this
     cases x <;> cases y <;> first
      | exact absurd rfl e
      | (clear e
         go_wp2
         go_quiet (fail)
         go_wp2
         go_ret
         exact ⟨ret_bool HD.out.symm, zbl⟩)
   ·have HD : Hid (decide (xs = ys) = true) := by
     show _ = _
     refine decide_eq_true (List.ext_getElem? fun m => ?_)
     rcases (by omega : m < k ∨ k ≤ m) with h | h
     ·exact HK.out m h
     ·rw [List.getElem?_eq_none (by omega), List.getElem?_eq_none (by omega)]
    go_wp2
    go_ret
    exact ⟨ret_bool HD.out.symm, zbl⟩
 ·have hl' : ((xs.length : Int) != ys.length) = true := by simp; omega
  have HD : Hid (decide (xs = ys) = false) := by
   show _ = _
   exact decide_eq_false (fun h => hl (by rw [h]))
  clear hl
  go_enter Tryz.func135, Tryz.ntmps135
  go_wp2
  go_ret
  exact ⟨ret_bool HD.out.symm, zbl⟩
section
variable {P : Program} {ops : Array Oper} {Q : Exit → Act → World → Prop} {W0 : World} {o : Oper} {os : List Oper} {fs : List Fct} {vs vs' : List Value} {gs gs' : List Fct} {a a' : Act}
theorem zoT {u : Value} (h : ∀ w, Below W0.heap.size W0 w → (∀ (j : Nat) (v : Value) (g : Fct), depB o j = true → vs[j]? = some v → gs[j]? = some g → g.at_ v w) → (execOp a.eval o).run P w = .ok (.value u) w) (h2 : Chain P ops W0 Q os fs vs' gs' a') (hw : Region.wanted o (yielded ops a.tmps) = true := by rfl)
    (hv : vs ++ [u] = vs' := by (first | (simp only [Act.put, List.setIfInBounds_toArray, List.set_cons_zero, List.set_cons_succ, List.nil_append, List.cons_append]; done) | (simp only [Act.put, List.setIfInBounds_toArray, List.set_cons_zero, List.set_cons_succ, List.nil_append, List.cons_append]; rfl) | rfl)) (hg : gs ++ [.is u] = gs' := by (first | (simp only [Act.put, List.setIfInBounds_toArray, List.set_cons_zero, List.set_cons_succ, List.nil_append, List.cons_append]; done) | (simp only [Act.put, List.setIfInBounds_toArray, List.set_cons_zero, List.set_cons_succ, List.nil_append, List.cons_append]; rfl) | rfl)) (ha : a.put o.dst u = a' := by (first | (simp only [Act.put, List.setIfInBounds_toArray, List.set_cons_zero, List.set_cons_succ, List.nil_append, List.cons_append]; done) | (simp only [Act.put, List.setIfInBounds_toArray, List.set_cons_zero, List.set_cons_succ, List.nil_append, List.cons_append]; rfl) | rfl)) : Chain P ops W0 Q (o :: os) (.is u :: fs) vs gs a := chain_is (step_take hw h) (by rw [hv, hg, ha]; exact h2)
theorem zot {u : Value} (h2 : Chain P ops W0 Q os fs vs' gs' a') (hw : Region.wanted o (yielded ops a.tmps) = true := by rfl) (h : ∀ w, Below W0.heap.size W0 w → (∀ (j : Nat) (v : Value) (g : Fct), depB o j = true → vs[j]? = some v → gs[j]? = some g → g.at_ v w) → (execOp a.eval o).run P w = .ok (.value u) w := by intro w hbw hd; clear hd; go_simp; first | done | with_reducible rfl)
    (hv : vs ++ [u] = vs' := by (first | (simp only [Act.put, List.setIfInBounds_toArray, List.set_cons_zero, List.set_cons_succ, List.nil_append, List.cons_append]; done) | (simp only [Act.put, List.setIfInBounds_toArray, List.set_cons_zero, List.set_cons_succ, List.nil_append, List.cons_append]; rfl) | rfl)) (hg : gs ++ [.is u] = gs' := by (first | (simp only [Act.put, List.setIfInBounds_toArray, List.set_cons_zero, List.set_cons_succ, List.nil_append, List.cons_append]; done) | (simp only [Act.put, List.setIfInBounds_toArray, List.set_cons_zero, List.set_cons_succ, List.nil_append, List.cons_append]; rfl) | rfl)) (ha : a.put o.dst u = a' := by (first | (simp only [Act.put, List.setIfInBounds_toArray, List.set_cons_zero, List.set_cons_succ, List.nil_append, List.cons_append]; done) | (simp only [Act.put, List.setIfInBounds_toArray, List.set_cons_zero, List.set_cons_succ, List.nil_append, List.cons_append]; rfl) | rfl)) : Chain P ops W0 Q (o :: os) (.is u :: fs) vs gs a := zoT h h2 hw hv hg ha
theorem zou (h2 : Chain P ops W0 Q os fs vs' gs' a') (hw : Region.wanted o (yielded ops a.tmps) = false := by rfl)
    (hv : vs ++ [undef] = vs' := by (first | (simp only [Act.put, List.setIfInBounds_toArray, List.set_cons_zero, List.set_cons_succ, List.nil_append, List.cons_append]; done) | (simp only [Act.put, List.setIfInBounds_toArray, List.set_cons_zero, List.set_cons_succ, List.nil_append, List.cons_append]; rfl) | rfl)) (hg : gs ++ [.is undef] = gs' := by (first | (simp only [Act.put, List.setIfInBounds_toArray, List.set_cons_zero, List.set_cons_succ, List.nil_append, List.cons_append]; done) | (simp only [Act.put, List.setIfInBounds_toArray, List.set_cons_zero, List.set_cons_succ, List.nil_append, List.cons_append]; rfl) | rfl)) (ha : a.put o.dst undef = a' := by (first | (simp only [Act.put, List.setIfInBounds_toArray, List.set_cons_zero, List.set_cons_succ, List.nil_append, List.cons_append]; done) | (simp only [Act.put, List.setIfInBounds_toArray, List.set_cons_zero, List.set_cons_succ, List.nil_append, List.cons_append]; rfl) | rfl)) : Chain P ops W0 Q (o :: os) (.is undef :: fs) vs gs a := chain_is (step_un hw) (by rw [hv, hg, ha]; exact h2)
end
theorem awake_any (w : World) (hz : TZ w) : Calls Tryz.prog 12 #[] w fun e w' => e = .returned (.bool true) ∧ Below w.heap.size w w' := by
 have HTZ := Lib.hid hz
 have HW0 : 0 < w.heap.size := hz.pos
 clear hz
 go_enter Tryz.func12, Tryz.ntmps12
 have hCk2 := SwNew_any 2 3 1 w (.inl (by omega))
 rw [kn_new] at hCk2
 (try dsimp only at hCk2)
 replace hCk2 := Lib.hid hCk2
 go_wp2_with fail
 refine hCk2.out.mono ?_
 rintro ek4 wk3 ⟨⟨ak1_0, ck1_0, ak1_1, ck1_1, ak1_2, ck1_2, ak1_3, ck1_3, ak1_4, ck1_4, ak1_5, ck1_5, ak1_6, ck1_6, ak1_7, ck1_7⟩, rfl, ho, hbk5⟩
 have Bk6 := hbk5
 clear hbk5 hCk2
 (try unfold swV swC)
 (try dsimp only)
 go_upto_region 2 with fail
 obtain ⟨Vk7, hVk7⟩ : ∃ V, wk3.alloc (.cells (zkx kn0 ak1_0 ck1_0 ak1_1 ck1_1 ak1_2 ck1_2 ak1_3 ck1_3 ak1_4 ck1_4 ak1_5 ck1_5 ak1_6 ck1_6 ak1_7 ck1_7).toArray 35) = V := ⟨_, rfl⟩
 have ks := za hVk7
 have hbVk7 := zab hVk7
 (try rw [hVk7])
 clear hVk7
 have HSs := Lib.hid (ho.sw.ext hbVk7)
 clear ho
 have Bk8 := zbt Bk6 hbVk7
 clear hbVk7
 have hHWk10 : ∀ V, Below Vk7.heap.size Vk7 V → _ := fun V hV => WriteOut_any ⟨ak1_0, ck1_0, ak1_1, ck1_1, ak1_2, ck1_2, ak1_3, ck1_3, ak1_4, ck1_4, ak1_5, ck1_5, ak1_6, ck1_6, ak1_7, ck1_7⟩ kn0 5 2 xC V (SwA.of (HSs.out.ext hV) kn_ok0 kn_l0) (HTZ.out.ext HW0 (Bk8.trans (hV.mono Bk8.size)))
 rw [kn_w1] at hHWk10
 have HWk10 := Lib.hid hHWk10
 clear hHWk10
 go_wp2_with fail
 refine zrg [1, 1, 2, 0, 0, 0, 0, 2, 3, 0, 0] [[], [], [], [2], [3], [3], [3], [], [], [5], [6]] [.kn ?_, .kn (.agg (zkk 1 2 3 4 5 6 7 9223372036854775808).toArray), .has (SwF kn1 [.int .i64 0, .int .i64 0]), .fn [2] fst_, .fn [3] (fun l => tupAt (fst_ l) 0), .fn [3] (fun l => tupAt (fst_ l) 1), .fn [3] (fun l => tupAt (fst_ l) 2), .has (VarN 35 zkz), .late, .fn [5] fst_, .fn [6] fst_] [8] (lts_kn (lts_kn (lts_has (SwF.lasts kn1 [.int .i64 0, .int .i64 0]) (lts_fn (lts_fn (lts_fn (lts_fn (lts_has (VarN.lasts 35 zkz) (lts_late (lts_fn (lts_fn lts_nil))))))))))) (fun W0 hb0 hz0 => ?_)
 rotate_left 1
 have kW := ks.below_ hb0 ks.lt
 have zW := kW.lt
 obtain ⟨p0, p1, p2, p3, p4, p5, p6, p7, p8, p9, p10⟩ := zc11 kW
 refine zqT (fun w hbw hd => ?_) ?_
 ·have r0 := cell_keep hbw p0 zW
  have r1 := cell_keep hbw p1 zW
  have r2 := cell_keep hbw p2 zW
  have r3 := cell_keep hbw p3 zW
  have r4 := cell_keep hbw p4 zW
  have r5 := cell_keep hbw p5 zW
  have r6 := cell_keep hbw p6 zW
  have r7 := cell_keep hbw p7 zW
  have r8 := cell_keep hbw p8 zW
  have r9 := cell_keep hbw p9 zW
  have r10 := cell_keep hbw p10 zW
  exact zgs
 refine zqc (fun w hbw hd K Q' hK => ?_) ?_
 ·clear hd
  go_simp
  refine (x_any _).mono ?_
  rintro e y ⟨rfl, hy⟩
  unfold ctV ctC xC
  dsimp only
  go_wp2_with fail
  exact hK.out _ _ _ zpt zbm rfl
 refine zqh (fun w hbw hd K Q' hK => ?_) (fun vwa2 => ?_)
 ·clear hd
  go_simp
  refine (HWk10.out _ (hb0.trans (hbw.mono hb0.size))).mono ?_
  rintro e y ⟨⟨ak9_0, ck9_0, ak9_1, ck9_1, ak9_2, ck9_2, ak9_3, ck9_3, ak9_4, ck9_4, ak9_5, ck9_5, ak9_6, ck9_6, ak9_7, ck9_7⟩, rfl, ho, hy⟩
  unfold swV swC
  go_wp2_with fail
  exact hK.out (.tuple #[.agg (zkx kn1 ak9_0 ck9_0 ak9_1 ck9_1 ak9_2 ck9_2 ak9_3 ck9_3 ak9_4 ck9_4 ak9_5 ck9_5 ak9_6 ck9_6 ak9_7 ck9_7).toArray, .int .i64 0, .int .i64 0]) _ _ zpt zbm ⟨⟨ak9_0, ck9_0, ak9_1, ck9_1, ak9_2, ck9_2, ak9_3, ck9_3, ak9_4, ck9_4, ak9_5, ck9_5, ak9_6, ck9_6, ak9_7, ck9_7⟩, rfl, ho⟩
 refine zqf (vwa2) ?_
 refine zqF (tupAt (vwa2) 0) (fun w0 hd w => ?_) ?_
 ·obtain ⟨_, _, ⟨ak9_0, ck9_0, ak9_1, ck9_1, ak9_2, ck9_2, ak9_3, ck9_3, ak9_4, ck9_4, ak9_5, ck9_5, ak9_6, ck9_6, ak9_7, ck9_7⟩, rfl, _⟩ : ∃ lo hi, SwF kn1 [.int .i64 0, .int .i64 0] vwa2 lo hi w0 := hd 2 _ _ (by kernel_rfl) rfl rfl
  unfold swV swC
  exact zsr
 refine zqF (tupAt (vwa2) 1) (fun w0 hd w => ?_) ?_
 ·obtain ⟨_, _, ⟨ak9_0, ck9_0, ak9_1, ck9_1, ak9_2, ck9_2, ak9_3, ck9_3, ak9_4, ck9_4, ak9_5, ck9_5, ak9_6, ck9_6, ak9_7, ck9_7⟩, rfl, _⟩ : ∃ lo hi, SwF kn1 [.int .i64 0, .int .i64 0] vwa2 lo hi w0 := hd 2 _ _ (by kernel_rfl) rfl rfl
  unfold swV swC
  exact zsr
 refine zqF (tupAt (vwa2) 2) (fun w0 hd w => ?_) ?_
 ·obtain ⟨_, _, ⟨ak9_0, ck9_0, ak9_1, ck9_1, ak9_2, ck9_2, ak9_3, ck9_3, ak9_4, ck9_4, ak9_5, ck9_5, ak9_6, ck9_6, ak9_7, ck9_7⟩, rfl, _⟩ : ∃ lo hi, SwF kn1 [.int .i64 0, .int .i64 0] vwa2 lo hi w0 := hd 2 _ _ (by kernel_rfl) rfl rfl
  unfold swV swC
  exact zsr
 refine zqh (fun w hbw hd K Q' hK => ?_) (fun vwa7 => ?_)
 ·clear hd
  go_simp
  exact hK.out (.pointer (some ⟨w.heap.size, 0, none⟩)) _ _ zpt zbm ⟨_, rfl, Blk.new_ rfl rfl, Nat.le_refl _, by simp⟩
 refine zql ?_
 refine zqf (tupAt (vwa2) 1) ?_
 refine zqf (tupAt (vwa2) 2) ?_
 refine chn_end (fun wz lo hi hbz hd hR => ?_)
 obtain ⟨⟨ak9_0, ck9_0, ak9_1, ck9_1, ak9_2, ck9_2, ak9_3, ck9_3, ak9_4, ck9_4, ak9_5, ck9_5, ak9_6, ck9_6, ak9_7, ck9_7⟩, rfl, ho⟩ : SwF kn1 [.int .i64 0, .int .i64 0] vwa2 (lo 2) (hi 2) wz := hd 2 _ _ rfl rfl
 obtain ⟨btk11, rfl, kb, hlo, hhi⟩ : VarN 35 zkz vwa7 (lo 7) (hi 7) wz := hd 7 _ _ rfl rfl
 have hWlo := (hR.2 7 _ rfl).1
 have hsz := hb0.size
 have BZ : Below Vk7.heap.size Vk7 wz := hb0.trans (hbz.mono hsz)
 clear hd hR p0 p1 p2 p3 p4 p5 p6 p7 p8 p9 p10
 unfold swV swC
 simp only [tupAt, List.getD_cons_succ, List.getD_cons_zero, Array.getD_eq_getD_getElem?, zy5, zy6, zy7, Option.getD_some]
 have zb := kb.lt
 obtain ⟨y0, y1, y2, y3, y4, y5, y6, y7, y8, y9, y10⟩ := zc11 kb
 obtain ⟨yf0, yf1, yf2, yf3, yf4, yf5, yf6, yf7, yf8, yf9, yf10, -⟩ := zf kb
 refine late_one (by simp only [zy5, zy6, zy7]; rfl) (fun K Q' hK => ?_)
 go_simp
 refine hK.out _ ?_
 clear hK K Q'
 obtain ⟨Uk12, hUk12⟩ : ∃ U, setN wz btk11 0 (zkx kn1 ak9_0 ck9_0 ak9_1 ck9_1 ak9_2 ck9_2 ak9_3 ck9_3 ak9_4 ck9_4 ak9_5 ck9_5 ak9_6 ck9_6 ak9_7 ck9_7) = U := ⟨_, rfl⟩
 have hUk12n := zs11 hUk12
 have ka := zsw hUk12 kb
 have HSa := Lib.hid (ho.farT kb (zkx kn1 ak9_0 ck9_0 ak9_1 ck9_1 ak9_2 ck9_2 ak9_3 ck9_3 ak9_4 ck9_4 ak9_5 ck9_5 ak9_6 ck9_6 ak9_7 ck9_7)).sw
 rw [hUk12] at HSa
 have hbUk12 := zbw hUk12 BZ (by omega)
 rw [hUk12n]
 clear hUk12n hUk12 ho kb zb hlo hhi hWlo hb0 hz0 hbz BZ zW kW hsz y0 yf0 y1 yf1 y2 yf2 y3 yf3 y4 yf4 y5 yf5 y6 yf6 y7 yf7 y8 yf8 y9 yf9 y10 yf10
 replace ks := ks.below_ hbUk12 ks.lt
 replace HSs := Lib.hid (HSs.out.ext hbUk12)
 have Bk13 := zbt Bk8 hbUk12
 clear hbUk12 HWk10
 have zka := ka.lt
 obtain ⟨q0, q1, q2, q3, q4, q5, q6, q7, q8, q9, q10⟩ := zc11 ka
 have hCk14 := Hinders_any ⟨ak9_0, ck9_0, ak9_1, ck9_1, ak9_2, ck9_2, ak9_3, ck9_3, ak9_4, ck9_4, ak9_5, ck9_5, ak9_6, ck9_6, ak9_7, ck9_7⟩ kn1 Uk12 (SwA.of HSa.out kn_ok1 kn_l1) (HTZ.out.ext HW0 Bk13)
 rw [kn_h1] at hCk14
 (try dsimp only at hCk14)
 replace hCk14 := Lib.hid hCk14
 go_wp2_with fail
 refine hCk14.out.mono ?_
 rintro ek16 wk15 ⟨lA, lc, rfl, hSl, hbk17⟩
 clear zka q0 q1 q2 q3 q4 q5 q6 q7 q8 q9 q10
 replace ks := ks.below_ hbk17 ks.lt
 replace HSs := Lib.hid (HSs.out.ext hbk17)
 replace ka := ka.below_ hbk17 ka.lt
 replace HSa := Lib.hid (HSa.out.ext hbk17)
 have Bk18 := zbt Bk13 hbk17
 clear hbk17 hCk14
 (try unfold swV swC)
 (try dsimp only)
 rw [show ([2] : List Int).length = 1 from rfl]
 go_upto_region 4 with fail
 (try dsimp only at hSl)
 have HSl := Lib.hid hSl
 clear hSl
 have zka := ka.lt
 obtain ⟨q0, q1, q2, q3, q4, q5, q6, q7, q8, q9, q10⟩ := zc11 ka
 have hCk20 := SwClaim_any ⟨ak9_0, ck9_0, ak9_1, ck9_1, ak9_2, ck9_2, ak9_3, ck9_3, ak9_4, ck9_4, ak9_5, ck9_5, ak9_6, ck9_6, ak9_7, ck9_7⟩ kn1 0 3 wk15 (SwA.of HSa.out kn_ok1 kn_l1) (HTZ.out.ext HW0 Bk18)
 rw [kn_c2] at hCk20
 (try dsimp only at hCk20)
 replace hCk20 := Lib.hid hCk20
 go_wp2_with fail
 refine hCk20.out.mono ?_
 rintro ek22 wk21 ⟨⟨ak19_0, ck19_0, ak19_1, ck19_1, ak19_2, ck19_2, ak19_3, ck19_3, ak19_4, ck19_4, ak19_5, ck19_5, ak19_6, ck19_6, ak19_7, ck19_7⟩, rfl, ho, hbk23⟩
 clear zka q0 q1 q2 q3 q4 q5 q6 q7 q8 q9 q10
 replace ks := ks.below_ hbk23 ks.lt
 replace HSs := Lib.hid (HSs.out.ext hbk23)
 replace ka := ka.below_ hbk23 ka.lt
 replace HSa := Lib.hid (HSa.out.ext hbk23)
 replace HSl := Lib.hid (HSl.out.ext hbk23)
 have Bk24 := zbt Bk18 hbk23
 clear hbk23 hCk20
 (try unfold swV swC)
 (try dsimp only)
 go_upto_region 5 with fail
 obtain ⟨Vk25, hVk25⟩ : ∃ V, wk21.alloc (.cells (zkx kn2 ak19_0 ck19_0 ak19_1 ck19_1 ak19_2 ck19_2 ak19_3 ck19_3 ak19_4 ck19_4 ak19_5 ck19_5 ak19_6 ck19_6 ak19_7 ck19_7).toArray 35) = V := ⟨_, rfl⟩
 have kb := za hVk25
 have hbVk25 := zab hVk25
 (try rw [hVk25])
 clear hVk25
 have HSb := Lib.hid (ho.sw.ext hbVk25)
 clear ho
 replace ks := ks.below_ hbVk25 ks.lt
 replace HSs := Lib.hid (HSs.out.ext hbVk25)
 replace ka := ka.below_ hbVk25 ka.lt
 replace HSa := Lib.hid (HSa.out.ext hbVk25)
 replace HSl := Lib.hid (HSl.out.ext hbVk25)
 have Bk26 := zbt Bk24 hbVk25
 clear hbVk25
 have zkb := kb.lt
 obtain ⟨q0, q1, q2, q3, q4, q5, q6, q7, q8, q9, q10⟩ := zc11 kb
 have hCk28 := Complete_any ⟨ak19_0, ck19_0, ak19_1, ck19_1, ak19_2, ck19_2, ak19_3, ck19_3, ak19_4, ck19_4, ak19_5, ck19_5, ak19_6, ck19_6, ak19_7, ck19_7⟩ kn2 0 Vk25 (SwA.of HSb.out kn_ok2 kn_l2) (HTZ.out.ext HW0 Bk26)
 rw [kn_c3] at hCk28
 (try dsimp only at hCk28)
 replace hCk28 := Lib.hid hCk28
 go_wp2_with fail
 refine hCk28.out.mono ?_
 rintro ek30 wk29 ⟨⟨ak27_0, ck27_0, ak27_1, ck27_1, ak27_2, ck27_2, ak27_3, ck27_3, ak27_4, ck27_4, ak27_5, ck27_5, ak27_6, ck27_6, ak27_7, ck27_7⟩, rfl, ho, hbk31⟩
 clear zkb q0 q1 q2 q3 q4 q5 q6 q7 q8 q9 q10
 replace ks := ks.below_ hbk31 ks.lt
 replace HSs := Lib.hid (HSs.out.ext hbk31)
 replace ka := ka.below_ hbk31 ka.lt
 replace HSa := Lib.hid (HSa.out.ext hbk31)
 replace kb := kb.below_ hbk31 kb.lt
 replace HSb := Lib.hid (HSb.out.ext hbk31)
 replace HSl := Lib.hid (HSl.out.ext hbk31)
 have Bk32 := zbt Bk26 hbk31
 clear hbk31 hCk28
 (try unfold swV swC)
 (try dsimp only)
 unfold dnV dnC kd3 ctC xC
 (try dsimp only)
 go_upto_region 6 with fail
 obtain ⟨Vk33, hVk33⟩ : ∃ V, (wk29.alloc (.cells (zkx kn3 ak27_0 ck27_0 ak27_1 ck27_1 ak27_2 ck27_2 ak27_3 ck27_3 ak27_4 ck27_4 ak27_5 ck27_5 ak27_6 ck27_6 ak27_7 ck27_7).toArray 35)).alloc (.cells (zkn true 0 5 3 1 2 3 4 5 6 7 9223372036854775808).toArray 55) = V := ⟨_, rfl⟩
 have kc := za1 hVk33
 have kd := za2 hVk33
 have hbVk33 := zabb hVk33
 (try rw [hVk33])
 clear hVk33
 have HSc := Lib.hid (ho.sw.ext hbVk33)
 clear ho
 replace ks := ks.below_ hbVk33 ks.lt
 replace HSs := Lib.hid (HSs.out.ext hbVk33)
 replace ka := ka.below_ hbVk33 ka.lt
 replace HSa := Lib.hid (HSa.out.ext hbVk33)
 replace kb := kb.below_ hbVk33 kb.lt
 replace HSb := Lib.hid (HSb.out.ext hbVk33)
 replace HSl := Lib.hid (HSl.out.ext hbVk33)
 have Bk34 := zbt Bk32 hbVk33
 clear hbVk33
 have HSI : Hid (∀ g V, Below Vk33.heap.size Vk33 V → Blk V g 3 #[.int .i64 2] → Calls Tryz.prog 20 #[.slice lA 1 lc, .slice (some ⟨g, 0, none⟩) 1 1] V fun e w' => e = .returned (.bool true) ∧ Below V.heap.size V w') := by
  show ∀ g V, _
  intro g V hV kg
  exact SameInts_any lA (some ⟨g, 0, none⟩) lc 1 [2] [2] V (HSl.out.ext hV).sl (Sl.of_lit (t := 3) (xs := [2]) kg) (by simp) (by simp)
 have HQ : Hid (∀ V, (Op.equalIn 9999 38 (.agg (zkk 1 2 3 4 5 6 7 9223372036854775808).toArray) (.agg (zkk 1 2 3 4 5 6 7 9223372036854775808).toArray)).run Tryz.prog V = .ok true V) := fun V => eqIn_ct V xC xC
 have HL2 : Hid (((kn3.sl.refs.length : Int) == 2) = true) := by show _ = _; rw [kn_refs3]; rfl
 have HL1 : Hid (0 < kn3.sl.refs.length) := by show 0 < _; rw [kn_refs3]; decide
 have HCK : Hid (∀ V, Below Vk33.heap.size Vk33 V → Calls Tryz.prog 18 #[swV ⟨ak27_0, ck27_0, ak27_1, ck27_1, ak27_2, ck27_2, ak27_3, ck27_3, ak27_4, ck27_4, ak27_5, ck27_5, ak27_6, ck27_6, ak27_7, ck27_7⟩ kn3] V fun e w' => e = .returned (.int .i64 0) ∧ Below V.heap.size V w') := by
  show ∀ V, _
  intro V hV
  have h := wCheck_any ⟨ak27_0, ck27_0, ak27_1, ck27_1, ak27_2, ck27_2, ak27_3, ck27_3, ak27_4, ck27_4, ak27_5, ck27_5, ak27_6, ck27_6, ak27_7, ck27_7⟩ kn3 V (SwA.of (HSc.out.ext hV) kn_ok3 kn_l3) (HTZ.out.ext HW0 (Bk34.trans (hV.mono Bk34.size)))
  rw [kn_chk3] at h
  exact h
 obtain ⟨rb, ro, rx, hA1, rl, hrx, hrc⟩ := HSc.out.r0.at_ (k := 0) (by rw [kn_refs3]; decide)
 have cr : Vk33.cell? ⟨rb, ro, none⟩ = some (.int .i64 1) := by
  have := hrc 0 _ rfl
  rw [kn_refs3] at hrx
  simp at hrx
  subst hrx
  simpa using this
 dsimp only at hA1
 subst hA1
 clear hrx hrc
 refine wp_region_chain (.is ?fla0 :: .is ?fla1 :: .is ?fla2 :: .is ?fla3 :: .is ?fla4 :: .is ?fla5 :: .is ?fla6 :: .is ?fla7 :: .is ?fla8 :: .is ?fla9 :: .is ?fla10 :: .is ?fla11 :: .is ?fla12 :: .is ?fla13 :: .is ?fla14 :: .is ?fla15 :: .has (LitS 3 1 [.int .i64 2]) :: .is (.bool true) :: .is ?fla18 :: .is ?fla19 :: .is ?fla20 :: .is ?fla21 :: .is ?fla22 :: .is ?fla23 :: .is ?fla24 :: .is ?fla25 :: .is ?fla26 :: .is ?fla27 :: .is ?fla28 :: .is (.agg (zkk 1 2 3 4 5 6 7 9223372036854775808).toArray) :: .is ?fla30 :: .is ?fla31 :: .is ?fla32 :: .is ?fla33 :: .is ?fla34 :: .is ?fla35 :: .is ?fla36 :: .is ?fla37 :: .is ?fla38 :: .is ?fla39 :: .is ?fla40 :: .is ?fla41 :: .is ?fla42 :: .is ?fla43 :: .is ?fla44 :: .is ?fla45 :: .is ?fla46 :: .is ?fla47 :: .is ?fla48 :: .is ?fla49 :: .is (.int .i64 0) :: .is ?fla51 :: .is ?fla52 :: .is ?fla53 :: []) (by kernel_rfl) (by kernel_rfl) (by kernel_rfl) (lasts_is (lasts_is (lasts_is (lasts_is (lasts_is (lasts_is (lasts_is (lasts_is (lasts_is (lasts_is (lasts_is (lasts_is (lasts_is (lasts_is (lasts_is (lasts_is (lasts_has (LitS.lasts 3 1 [.int .i64 2]) (lasts_is (lasts_is (lasts_is (lasts_is (lasts_is (lasts_is (lasts_is (lasts_is (lasts_is (lasts_is (lasts_is (lasts_is (lasts_is (lasts_is (lasts_is (lasts_is (lasts_is (lasts_is (lasts_is (lasts_is (lasts_is (lasts_is (lasts_is (lasts_is (lasts_is (lasts_is (lasts_is (lasts_is (lasts_is (lasts_is (lasts_is (lasts_is (lasts_is (lasts_is (lasts_is (lasts_is (lasts_is lasts_nil)))))))))))))))))))))))))))))))))))))))))))))))))))))) (fun W0 hb0 hz0 => ?_)
 rotate_left 50
 have kW := kc.below_ hb0 kc.lt
 have zW := kW.lt
 have kN := kd.below_ hb0 kd.lt
 have zN := kN.lt
 have pr := cell_keep hb0 cr rl
 have zR : rb < W0.heap.size := Nat.lt_of_lt_of_le rl hb0.size
 obtain ⟨p0, p1, p2, p3, p4, p5, p6, p7, p8, p9, p10⟩ := zc11 kW
 obtain ⟨n0, n1, n2, n3, n4, n5, n6, n7, n8, n9, n10, n11⟩ := zc12 kN
 refine zot ?_
 refine zot ?_
 refine zot ?_
 refine zot ?_
 refine zot ?_
 refine zot ?_
 refine zot ?_
 refine zot ?_
 refine zot ?_
 refine zot ?_
 refine zot ?_
 refine zot ?_
 refine zot ?_
 refine zot ?_
 refine zot ?_
 refine zot ?_
 refine chain_has ?sla16 (fun vla16 => ?rla16)
 case sla16 =>
  intro w hbw hd K Q' hK
  clear hd
  go_simp
  go_wp2_with fail
  refine hK.out (.slice (some ⟨w.heap.size, 0, none⟩) 1 1) _ _ ?_ ?_ ?_
  ·(simp only [Act.put, zy0, zy1, zy2, List.nil_append, List.cons_append])
  ·exact zbm
  ·exact ⟨_, rfl, Blk.new_ rfl rfl⟩
 (try simp only [Act.put, zy0, zy1, zy2, List.nil_append, List.cons_append])
 refine chain_is ?sla17 ?rla17
 case sla17 =>
  intro w hbw hd K Q' hK
  obtain ⟨g, rfl, kg⟩ : LitS 3 1 [.int .i64 2] _ w := hd 16 _ _ (by rfl) rfl rfl
  clear hd
  go_simp
  refine (HSI.out g w (hb0.trans (hbw.mono hb0.size)) kg).mono ?_
  rintro e y ⟨rfl, hy⟩
  go_wp2_with fail
  refine hK.out (.bool true) _ _ ?_ ?_ rfl
  ·(simp only [Act.put, zy0, zy1, zy2, List.nil_append, List.cons_append])
  ·exact zbm
 (try simp only [Act.put, zy0, zy1, zy2, List.nil_append, List.cons_append])
 refine zot ?_
 refine zot ?_
 refine zot ?_
 refine zot ?_
 refine zot ?_
 refine zot ?_
 refine zot ?_
 refine zot ?_
 refine zot ?_
 refine zot ?_
 refine zoT (fun w hbw hd => ?_) ?_
 ·have r0 := cell_keep hbw n0 zN
  have r1 := cell_keep hbw n1 zN
  have r2 := cell_keep hbw n2 zN
  have r3 := cell_keep hbw n3 zN
  have r4 := cell_keep hbw n4 zN
  have r5 := cell_keep hbw n5 zN
  have r6 := cell_keep hbw n6 zN
  have r7 := cell_keep hbw n7 zN
  have r8 := cell_keep hbw n8 zN
  have r9 := cell_keep hbw n9 zN
  have r10 := cell_keep hbw n10 zN
  have r11 := cell_keep hbw n11 zN
  exact zgs
 refine chain_is ?sla29 ?rla29
 case sla29 =>
  intro w hbw hd K Q' hK
  clear hd
  go_simp
  refine (x_any _).mono ?_
  rintro e y ⟨rfl, hy⟩
  unfold ctV ctC xC
  dsimp only
  go_wp2_with fail
  refine hK.out (.agg (zkk 1 2 3 4 5 6 7 9223372036854775808).toArray) _ _ ?_ ?_ rfl
  ·(simp only [Act.put, zy0, zy1, zy2, List.nil_append, List.cons_append])
  ·exact zbm
 (try simp only [Act.put, zy0, zy1, zy2, List.nil_append, List.cons_append])
 refine zot ?_
 refine zoT (fun w hbw hd => ?_) ?_
 ·have hq := HQ.out w
  exact zgs
 refine zot ?_
 refine zot ?_
 refine zot ?_
 refine zot ?_
 refine zoT (fun w hbw hd => ?_) ?_
 ·have r1 := cell_keep hbw p1 zW
  exact zgs
 refine zot ?_
 refine zoT (fun w hbw hd => ?_) ?_
 ·have hl := HL2.out
  exact zgs
 refine zot ?_
 refine zot ?_
 refine zot ?_
 refine zot ?_
 refine zoT (fun w hbw hd => ?_) ?_
 ·have r1 := cell_keep hbw p1 zW
  exact zgs
 refine zoT (fun w hbw hd => ?_) ?_
 ·have hl := HL1.out
  exact zgs
 refine zoT (fun w hbw hd => ?_) ?_
 ·have r0 := cell_keep hbw pr zR
  exact zgs
 refine zot ?_
 refine zot ?_
 refine zot ?_
 refine zoT (fun w hbw hd => ?_) ?_
 ·have r0 := cell_keep hbw p0 zW
  have r1 := cell_keep hbw p1 zW
  have r2 := cell_keep hbw p2 zW
  have r3 := cell_keep hbw p3 zW
  have r4 := cell_keep hbw p4 zW
  have r5 := cell_keep hbw p5 zW
  have r6 := cell_keep hbw p6 zW
  have r7 := cell_keep hbw p7 zW
  have r8 := cell_keep hbw p8 zW
  have r9 := cell_keep hbw p9 zW
  have r10 := cell_keep hbw p10 zW
  exact zgs
 refine chain_is ?sla50 ?rla50
 case sla50 =>
  intro w hbw hd K Q' hK
  clear hd
  go_simp
  refine (HCK.out w (hb0.trans (hbw.mono hb0.size))).mono ?_
  rintro e y ⟨rfl, hy⟩
  go_wp2_with fail
  refine hK.out (.int .i64 0) _ _ ?_ ?_ rfl
  ·(simp only [Act.put, zy0, zy1, zy2, List.nil_append, List.cons_append])
  ·exact zbm
 (try simp only [Act.put, zy0, zy1, zy2, List.nil_append, List.cons_append])
 refine zot ?_
 refine zot ?_
 refine zot ?_
 refine chain_end (fun wz hbz hd => ?_)
 go_wp2_with fail
 go_ret
 exact ⟨rfl, Bk34.trans ((hb0.trans (hbz.mono hb0.size)).mono Bk34.size)⟩
def larW (s : Swp) : Bool := decide (40 < s.sl.refs.length ∨ 40 < s.sl.busy.length ∨ 40 < s.dk.cells.length ∨ 40 < s.dk.jobs.length ∨ 40 < s.wr.length ∨ 40 < s.rd.length ∨ 40 < s.desc.length ∨ 40 < s.po.free.length)
theorem larW_few {s : Swp} (h : larW s = false) : Few s := by
 unfold larW at h
 have := of_decide_eq_false h
 exact ⟨by omega, by omega, by omega, by omega, by omega, by omega, by omega, by omega⟩
theorem large_any (L : Lay) (s : Swp) (w : World) : Calls Tryz.prog 11 #[swV L s] w fun e w' => e = .returned (.bool (larW s)) ∧ Below w.heap.size w w' := by
 obtain ⟨a0, c0, a1, c1, a2, c2, a3, c3, a4, c4, a5, c5, a6, c6, a7, c7⟩ := L
 obtain ⟨R, hR⟩ : ∃ R, larW s = R := ⟨_, rfl⟩
 rw [hR]
 have HR := Lib.hid hR
 clear hR
 unfold swV swC
 go_enter Tryz.func11, Tryz.ntmps11
 cases g0 : decide ((s.sl.refs.length : Int) > 40) with
 | true =>
  have HE : Hid (R = true) := by show _ = _; rw [← HR.out]; unfold larW; simp at g0; simp; omega
  go_wp2_with fail
  go_ret
  exact ⟨ret_bool HE.out.symm, zbl⟩
 | false =>
  cases g1 : decide ((s.sl.busy.length : Int) > 40) with
  | true =>
   have HE : Hid (R = true) := by show _ = _; rw [← HR.out]; unfold larW; simp at g1; simp; omega
   go_wp2_with fail
   go_ret
   exact ⟨ret_bool HE.out.symm, zbl⟩
  | false =>
   cases g2 : decide ((s.dk.cells.length : Int) > 40) with
   | true =>
    have HE : Hid (R = true) := by show _ = _; rw [← HR.out]; unfold larW; simp at g2; simp; omega
    go_wp2_with fail
    go_ret
    exact ⟨ret_bool HE.out.symm, zbl⟩
   | false =>
    cases g3 : decide ((s.dk.jobs.length : Int) > 40) with
    | true =>
     have HE : Hid (R = true) := by show _ = _; rw [← HR.out]; unfold larW; simp at g3; simp; omega
     go_wp2_with fail
     go_ret
     exact ⟨ret_bool HE.out.symm, zbl⟩
    | false =>
     cases g4 : decide ((s.wr.length : Int) > 40) with
     | true =>
      have HE : Hid (R = true) := by show _ = _; rw [← HR.out]; unfold larW; simp at g4; simp; omega
      go_wp2_with fail
      go_ret
      exact ⟨ret_bool HE.out.symm, zbl⟩
     | false =>
      cases g5 : decide ((s.rd.length : Int) > 40) with
      | true =>
       have HE : Hid (R = true) := by show _ = _; rw [← HR.out]; unfold larW; simp at g5; simp; omega
       go_wp2_with fail
       go_ret
       exact ⟨ret_bool HE.out.symm, zbl⟩
      | false =>
       cases g6 : decide ((s.desc.length : Int) > 40) with
       | true =>
        have HE : Hid (R = true) := by show _ = _; rw [← HR.out]; unfold larW; simp at g6; simp; omega
        go_wp2_with fail
        go_ret
        exact ⟨ret_bool HE.out.symm, zbl⟩
       | false =>
        cases g7 : decide ((s.po.free.length : Int) > 40) with
        | true =>
         have HE : Hid (R = true) := by show _ = _; rw [← HR.out]; unfold larW; simp at g7; simp; omega
         go_wp2_with fail
         go_ret
         exact ⟨ret_bool HE.out.symm, zbl⟩
        | false =>
         have HE : Hid (R = false) := by show _ = _; rw [← HR.out]; unfold larW; simp at g0 g1 g2 g3 g4 g5 g6 g7; simp; omega
         go_wp2_with fail
         go_ret
         exact ⟨ret_bool HE.out.symm, zbl⟩
end Go.Proofs.YthijbipidbjpfaaGreatDoor
