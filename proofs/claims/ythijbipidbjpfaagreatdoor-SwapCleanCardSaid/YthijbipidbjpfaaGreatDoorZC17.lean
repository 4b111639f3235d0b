import Derived.Test.YthijbipidbjpfaaGreatDoorZC16
import Derived.Test.YthijbipidbjpfaaGreatDoorZC00
import Derived.Test.YthijbipidbjpfaaGreatDoorZC04
import Derived.Test.YthijbipidbjpfaaGreatDoorZC03
import Derived.Test.YthijbipidbjpfaaGreatDoorZC08
import Derived.Laws.IdiomRangeMap
import Derived.Test.YthijbipidbjpfaaGreatDoorZC06
set_option linter.unusedSimpArgs false
set_option linter.unusedVariables false
set_option maxRecDepth 100000
set_option maxHeartbeats 8000000
namespace Go.Proofs.YthijbipidbjpfaaGreatDoor
open Go.RowKit Go.Maps
def WtPost (s : Swp) (w : World) (e : Ending) (w' : World) : Prop := Below w.heap.size w w' ∧ ((wtok s = true ∧ ∃ M n, e = .returned (.tuple #[.map (some M), .bool true]) ∧ MapT wtT w' M n (lkV (wtV s)) ∧ w.heap.size ≤ M) ∨ (wtok s = false ∧ e = .returned (.tuple #[.map none, .bool false])))
theorem wpList_putWt {ops : Array Oper} {rest : List Oper} {o : Oper} {a : Act} {Z : Exit → Act → World → Prop} (w : World) (hg : o.guard = none) (mo x vo : Operand) (hop : o.op = Op.mapUpdate 124 mo x vo)
  (B n : Nat) (m : Int → Option (Bool × Int)) (hm : a.eval mo = .map (some B)) (h : MapT wtT w B n m) (hn : n < maxLen) (k : Int) (v : Bool × Int) (hx : a.eval x = .int .i64 k) (hv : a.eval vo = .agg #[.bool v.1, .int .i64 v.2]) (hk : (Lit.int .i64 k).wf = true)
  (hK : ∀ w', MapT wtT w' B (n + 1) (fun j => if j = k then some v else m j) → w.grownBy w' (some B) → w'.heap.size = w.heap.size → wpList Tryz.prog ops Z rest (a.put o.dst undef) w') : wpList Tryz.prog ops Z (o :: rest) a w :=
 wpList_putT wtT w hg _ rfl mo x vo hop B n m hm h hn k v hx hv hk trivial hK
theorem wtT_look {w : World} {M n : Nat} {m : Int → Option (Bool × Int)} (h : MapT wtT w M n m) (x : Int) (hx : (Lit.int .i64 x).wf = true) {v : Bool × Int} (hv : (m x).getD (false, 0) = v) {b : Bool} (hb : (m x).isSome = b) :
  (Instr.lookup 124 (.map (some M)) (.int .i64 x) true).run Tryz.prog w = .ok (.tuple #[.agg #[.bool v.1, .int .i64 v.2], .bool b]) w :=
 h.look_ok (T := wtT) (k := x) hx hv hb
theorem swProc_b (n : Int) (b : Bool) (hb : decide (1 ≤ n ∧ n ≤ 8) = b) (w : World) : Calls Tryz.prog 97 #[.int .i64 n] w fun e w' => e = .returned (.bool b) ∧ w = w' := by
 have HB := Lib.hid hb
 clear hb
 go_enter Tryz.func97, Tryz.ntmps97
 go_wp2
 all_goals
  go_ret
  refine ⟨ret_bool ?_, rfl⟩
  have := HB.out
  first | (rw [← this, decide_eq_true (by omega)]; done) | (rw [← this, decide_eq_false (by omega)]; done) | (simp_all; done) | (simp_all; omega)
theorem swFrame_b (n : Int) (b : Bool) (hb : decide (0 ≤ n ∧ n < 256) = b) (w : World) : Calls Tryz.prog 48 #[.int .i64 n] w fun e w' => e = .returned (.bool b) ∧ w = w' := by
 have HB := Lib.hid hb
 clear hb
 go_enter Tryz.func48, Tryz.ntmps48
 go_wp2
 all_goals
  go_ret
  refine ⟨ret_bool ?_, rfl⟩
  have := HB.out
  first | (rw [← this, decide_eq_true (by omega)]; done) | (rw [← this, decide_eq_false (by omega)]; done) | (simp_all; done) | (simp_all; omega)
theorem waiting_any (L : Lay) (s : Swp) (w : World) (h2 : SR wrE w L.a2 s.wr) (h3 : SR rdE w L.a3 s.rd) (hv : Valid s.wr) (hr : ∀ v ∈ s.rd, (Lit.int .i64 v.2.2).wf = true) (l3 : s.rd.length ≤ 1000) :
  Calls Tryz.prog 88 #[swV L s] w (WtPost s w) := by
 obtain ⟨a0, c0, a1, c1, a2, c2, a3, c3, a4, c4, a5, c5, a6, c6, a7, c7⟩ := L
 have H2 := Lib.hid h2
 have H3 := Lib.hid h3
 have HV := Lib.hid hv
 have HR := Lib.hid hr
 have l2 : s.wr.length ≤ 16 := hv.1
 have hmm := @run_makeMap Tryz.prog
 clear h2 h3 hv hr
 unfold swV swC
 go_enter Tryz.func88, Tryz.ntmps88
 go_wp2_with fail
 obtain ⟨V, hV⟩ : ∃ V, (w.alloc (.cells (zkx s a0 c0 a1 c1 a2 c2 a3 c3 a4 c4 a5 c5 a6 c6 a7 c7).toArray 35)).alloc (.map #[] 0) = V := ⟨_, rfl⟩
 have hM : MapT wtT V (w.heap.size + 1) 0 (fun _ => none) := by
  have h := MapT.new_ (T := wtT) (w.alloc (.cells (zkx s a0 c0 a1 c1 a2 c2 a3 c3 a4 c4 a5 c5 a6 c6 a7 c7).toArray 35))
  rw [hV] at h
  simpa using h
 have BV : Below w.heap.size w V := by rw [← hV]; exact zbl
 have kS := za1 hV
 rw [hV]
 clear hV
 go_loopw [15] (fun i wr => ∃ (k cnt : Nat), k ≤ s.wr.length ∧ i = .int .i64 k ∧ Hid (MapT wtT wr (w.heap.size + 1) cnt (lkV (wtv true (s.wr.take k)))) ∧ cnt ≤ k ∧ Below w.heap.size w wr ∧ Blk wr w.heap.size 35 (zkx s a0 c0 a1 c1 a2 c2 a3 c3 a4 c4 a5 c5 a6 c6 a7 c7).toArray) (fun i _ => s.wr.length - (intOf i).toNat)
 case atStart => exact ⟨0, 0, by omega, rfl, hM, by omega, BV, kS⟩
 case round =>
  clear hM BV kS
  obtain ⟨k, cnt, hk, rfl, HM, hcn, hb, kS⟩ := hrel
  by_cases hlt : k < s.wr.length
  ·have i1 : (k : Int) < s.wr.length := by omega
   obtain ⟨b, off, x, rfl, hbl, hx, hc⟩ := (H2.out.ext hb).at_ hlt
   obtain ⟨x0, x1, x2⟩ := x
   have HX := Lib.hid hx
   have hokx := HV.out.2.1 _ (List.mem_of_getElem? hx)
   have HWF : Hid ((Lit.int .i64 x2).wf = true) := by
    unfold okW at hokx
    simp at hokx
    exact wf_i (by omega)
   clear hx hokx
   have e0 : wr.cell? ⟨b, off + k * 3, none⟩ = some (.int .i64 x0) := hc 0 _ rfl
   have e1 : wr.cell? ⟨b, off + k * 3 + 1, none⟩ = some (.int .i64 x1) := hc 1 _ rfl
   have e2 : wr.cell? ⟨b, off + k * 3 + 2, none⟩ = some (.int .i64 x2) := hc 2 _ rfl
   obtain ⟨V6, hV6⟩ : ∃ V6, wr.alloc (.cells #[.int .i64 x0, .int .i64 x1, .int .i64 x2] 106) = V6 := ⟨_, rfl⟩
   have kJ := za hV6
   have B6 := zab hV6
   have zJ := kJ.lt
   obtain ⟨j0, j1, j2⟩ := zc3 kJ
   have HM6 : Hid (MapT wtT V6 (w.heap.size + 1) cnt (lkV (wtv true (s.wr.take k)))) := HM.out.ext B6
   have zM : w.heap.size + 1 < wr.heap.size := HM.out.lt
   have kS6 := kS.below_ B6 kS.lt
   by_cases z2 : x2 = 0
   ·have n2 : (x2 != 0) = false := by simpa using z2
    replace z2 := Lib.hid z2
    go_upto_region 5 with fail
    (try rw [hV6])
    clear hV6 e0 e1 e2
    go_wp2_with fail
    go_roundw
    case rel =>
     refine ⟨k + 1, cnt, by omega, by go_num, ?_, by omega, hb.trans (B6.mono hb.size), kS6⟩
     rw [wtv_succ HX.out, if_pos z2.out, List.append_nil]
     exact HM6
    case measure => simp [intOf]; omega
   ·have n2 : (x2 != 0) = true := by simpa using z2
    have HZ2 := Lib.hid z2
    go_upto_region 5 with fail
    (try rw [hV6])
    clear hV6 e0 e1 e2
    go_wp2_with (at_mapUpdate; refine wpList_putWt _ rfl _ _ _ rfl (w.heap.size + 1) cnt _ rfl HM6.out (by unfold maxLen; omega) x2 (true, x0) rfl rfl HWF.out ?_; intro w7 h7 g7 s7)
    have B7 : Below w.heap.size w w7 := below_grown (hb.trans (B6.mono hb.size)) g7 (by omega)
    have kS7 := (g7.block _ kS6.lt (by simp)).trans kS6
    go_roundw
    case rel =>
     refine ⟨k + 1, cnt + 1, by omega, by go_num, ?_, by omega, B7, kS7⟩
     rw [lkV_snoc _ _ _ (wtv_new HV.out HX.out HZ2.out)] at h7
     rw [wtv_succ HX.out, if_neg HZ2.out]
     exact h7
    case measure => simp [intOf]; omega
  ·obtain rfl : k = s.wr.length := by omega
   have HM0 : Hid (MapT wtT wr (w.heap.size + 1) cnt (lkV (wtv true s.wr ++ wtv false (s.rd.take 0)))) := by
    show MapT _ _ _ _ _
    have := HM.out
    rw [List.take_length] at this
    have e : wtv true s.wr ++ wtv false (s.rd.take 0) = wtv true s.wr := by simp [wtv]
    rw [e]
    exact this
   obtain ⟨W, rfl⟩ : ∃ W, W = wr := ⟨_, rfl⟩
   clear HM
   have zS := kS.lt
   obtain ⟨-, -, -, -, q3, -⟩ := zc11 kS
   go_wp2_with fail
   clear q3
   have HG0 : Hid (wgood s.wr (s.rd.take 0)) := wgood_start HV.out
   go_loopw [32] (fun i wr => ∃ (k cnt : Nat), k ≤ s.rd.length ∧ i = .int .i64 k ∧ Hid (MapT wtT wr (w.heap.size + 1) cnt (lkV (wtv true s.wr ++ wtv false (s.rd.take k)))) ∧ cnt ≤ 16 + k ∧ Hid (wgood s.wr (s.rd.take k)) ∧ Below w.heap.size w wr) (fun i _ => s.rd.length - (intOf i).toNat)
   case atStart => exact ⟨0, cnt, by omega, rfl, HM0, by omega, HG0, hb⟩
   case round =>
    clear HM0 HG0 hb kS
    obtain ⟨k, cnt, hk, rfl, HM, hcn, HG, hb⟩ := hrel
    by_cases hlt : k < s.rd.length
    ·have i1 : (k : Int) < s.rd.length := by omega
     obtain ⟨b, off, x, rfl, hbl, hx, hc⟩ := (H3.out.ext hb).at_ hlt
     obtain ⟨x0, x1, x2⟩ := x
     have HX := Lib.hid hx
     have HWF : Hid ((Lit.int .i64 x2).wf = true) := HR.out _ (List.mem_of_getElem? hx)
     clear hx
     have e0 : wr.cell? ⟨b, off + k * 3, none⟩ = some (.int .i64 x0) := hc 0 _ rfl
     have e1 : wr.cell? ⟨b, off + k * 3 + 1, none⟩ = some (.int .i64 x1) := hc 1 _ rfl
     have e2 : wr.cell? ⟨b, off + k * 3 + 2, none⟩ = some (.int .i64 x2) := hc 2 _ rfl
     obtain ⟨V6, hV6⟩ : ∃ V6, wr.alloc (.cells #[.int .i64 x0, .int .i64 x1, .int .i64 x2] 100) = V6 := ⟨_, rfl⟩
     have kJ := za hV6
     have B6 := zab hV6
     have zJ := kJ.lt
     obtain ⟨j0, j1, j2⟩ := zc3 kJ
     have HM6 : Hid (MapT wtT V6 (w.heap.size + 1) cnt (lkV (wtv true s.wr ++ wtv false (s.rd.take k)))) := HM.out.ext B6
     have zM : w.heap.size + 1 < wr.heap.size := HM.out.lt
     by_cases z2 : x2 = 0
     ·have n2 : (x2 == 0) = true := by simpa using z2
      replace z2 := Lib.hid z2
      go_upto_region 11 with fail
      (try rw [hV6])
      clear hV6 e0 e1 e2
      go_wp2_with fail
      go_roundw
      case rel =>
       refine ⟨k + 1, cnt, by omega, by go_num, ?_, by omega, wgood_zero HG.out HX.out z2.out, hb.trans (B6.mono hb.size)⟩
       rw [wtv_succ HX.out, if_pos z2.out, List.append_nil]
       exact HM6
      case measure => simp [intOf]; omega
     ·have n2 : (x2 == 0) = false := by simpa using z2
      have HZ2 := Lib.hid z2
      obtain ⟨tw, htw⟩ : ∃ b, (lkV (wtv true s.wr ++ wtv false (s.rd.take k)) x2).isSome = b := ⟨_, rfl⟩
      obtain ⟨⟨y0, y1⟩, hy⟩ : ∃ y, (lkV (wtv true s.wr ++ wtv false (s.rd.take k)) x2).getD (false, 0) = y := ⟨_, rfl⟩
      have hlk := wtT_look HM6.out x2 HWF.out hy htw
      have HTW := Lib.hid htw
      clear htw hy
      have NV := fun (W' : World) => Blk.new_ (w := W') (t := 128) (cs := #[.bool y0, .int .i64 y1]) rfl rfl
      cases tw with
      | true =>
       have HB : Hid (wtok s = false) := by
        show _ = _
        refine Bool.eq_false_iff.2 fun e => ?_
        exact wgood_bad HX.out HZ2.out (.inl HTW.out) ((wtok_iff s).1 e)
       go_upto_region 11 with fail
       (try rw [hV6])
       clear hV6 e0 e1 e2
       go_wp2_with fail
       refine bodyPost_ret (by simp [results, Tryz.results88, go_sem] <;> rfl) rfl ?_
       refine ⟨?_, .inr ⟨HB.out, rfl⟩⟩
       exact (hb.trans (B6.mono hb.size)).alloc (Nat.le_trans hb.size B6.size) _
      | false =>
       cases d3 : decide (1 ≤ x2 ∧ x2 ≤ 8) with
       | false =>
        have HB : Hid (wtok s = false) := by
         show _ = _
         refine Bool.eq_false_iff.2 fun e => ?_
         exact wgood_bad HX.out HZ2.out (.inr (by simpa using d3)) ((wtok_iff s).1 e)
        go_upto_region 11 with fail
        (try rw [hV6])
        clear hV6 e0 e1 e2
        go_wp2_with (go_at_call 97; refine (swProc_b _ _ d3 _).mono ?_; rintro e w' ⟨rfl, rfl⟩)
        refine bodyPost_ret (by simp [results, Tryz.results88, go_sem] <;> rfl) rfl ?_
        refine ⟨?_, .inr ⟨HB.out, rfl⟩⟩
        exact (hb.trans (B6.mono hb.size)).alloc (Nat.le_trans hb.size B6.size) _
       | true =>
        have HD := Lib.hid d3
        go_upto_region 11 with fail
        (try rw [hV6])
        clear hV6 e0 e1 e2
        go_upto_region 15 with (go_at_call 97; refine (swProc_b _ _ d3 _).mono ?_; rintro e w' ⟨rfl, rfl⟩)
        obtain ⟨V8, hV8⟩ : ∃ V8, V6.alloc (.cells #[.bool y0, .int .i64 y1] 128) = V8 := ⟨_, rfl⟩
        have B8 := zab hV8
        have HM8 : Hid (MapT wtT V8 (w.heap.size + 1) cnt (lkV (wtv true s.wr ++ wtv false (s.rd.take k)))) := HM6.out.ext B8
        have kJ8 := kJ.below_ B8 zJ
        have zJ8 := kJ8.lt
        clear j0 j1 j2 hlk
        obtain ⟨j0, j1, j2⟩ := zc3 kJ8
        (try rw [hV8])
        clear hV8
        go_wp2_with (at_mapUpdate; refine wpList_putWt _ rfl _ _ _ rfl (w.heap.size + 1) cnt _ rfl HM8.out (by unfold maxLen; omega) x2 (false, x0) rfl rfl HWF.out ?_; intro w7 h7 g7 s7)
        have B7 : Below w.heap.size w w7 := below_grown ((hb.trans (B6.mono hb.size)).trans (B8.mono (Nat.le_trans hb.size B6.size))) g7 (by omega)
        go_roundw
        case rel =>
         have hnone : lkV (wtv true s.wr ++ wtv false (s.rd.take k)) x2 = none := Option.isSome_eq_false_iff.1 HTW.out |> Option.isNone_iff_eq_none.1
         refine ⟨k + 1, cnt + 1, by omega, by go_num, ?_, by omega, wgood_succ HG.out HX.out HZ2.out hnone (by simpa using HD.out), B7⟩
         rw [lkV_snoc _ _ _ hnone] at h7
         rw [wtv_succ HX.out, if_neg HZ2.out, ← List.append_assoc]
         exact h7
        case measure => simp [intOf]; omega
    ·obtain rfl : k = s.rd.length := by omega
     have HM9 := HM.out
     have HG9 := HG.out
     rw [List.take_length] at HM9 HG9
     go_wp2_with fail
     refine bodyPost_ret (by simp [results, Tryz.results88, go_sem] <;> rfl) rfl ?_
     exact ⟨hb, .inl ⟨(wtok_iff s).2 HG9, w.heap.size + 1, cnt, rfl, HM9, by omega⟩⟩
structure WkAt (w : World) (base B : Nat) (L : Lay) (s : Swp) : Prop where
 blk : Blk w B 87 (swC L s).toArray
 own : SwO w base L s
 low : base ≤ B
def WkPost (s : Swp) (w : World) (e : Ending) (w' : World) : Prop := ∃ B L, e = .returned (.pointer (some ⟨B, 0, none⟩)) ∧ WkAt w' w.heap.size B L s ∧ Below w.heap.size w w'
theorem WkAt.ext {w w' : World} {base B : Nat} {L : Lay} {s : Swp} (h : WkAt w base B L s) (hb : Below w.heap.size w w') : WkAt w' base B L s :=
 ⟨h.blk.below_ hb h.blk.lt, h.own.ext hb, h.low⟩
theorem load_any (L : Lay) (s : Swp) (w : World) (h : SwR w L s) (hf : Few s) : Calls Tryz.prog 50 #[swV L s] w (WkPost s w) := by
 obtain ⟨a0, c0, a1, c1, a2, c2, a3, c3, a4, c4, a5, c5, a6, c6, a7, c7⟩ := L
 have HS := Lib.hid h
 obtain ⟨f0, f1, f2, f3, f4, f5, f6, f7⟩ := hf
 clear h
 unfold swV swC
 obtain ⟨X0, hX0⟩ : ∃ X, w.alloc (.cells (zkx s a0 c0 a1 c1 a2 c2 a3 c3 a4 c4 a5 c5 a6 c6 a7 c7).toArray 35) = X := ⟨_, rfl⟩
 have kS0 : Blk X0 w.heap.size 35 (zkx s a0 c0 a1 c1 a2 c2 a3 c3 a4 c4 a5 c5 a6 c6 a7 c7).toArray := by rw [← hX0]; exact zbk
 have BX0 : Below w.heap.size w X0 := by rw [← hX0]; exact zbl
 go_enter Tryz.func50, Tryz.ntmps50
 have zq0 := kS0.lt
 obtain ⟨-, q0_1, -⟩ := zc11 kS0
 go_wp2_with fail
 (try rw [hX0])
 clear hX0
 refine (ClnI_any a0 c0 s.sl.refs X0 (HS.out.r0.ext BX0) (by omega)).mono ?_
 rintro e0 w1 ⟨b0, d0, rfl, o0, hb0⟩
 have kT0 := kS0.below_ hb0 zq0
 have zt0 := kT0.lt
 obtain ⟨-, t0_1, -⟩ := zc11 kT0
 have tf0_1 := kT0.frozen_ 1
 go_upto_region 2 with fail
 obtain ⟨X1, hX1⟩ : ∃ V, w1.setCell ⟨w.heap.size, 1, none⟩ (.slice b0 s.sl.refs.length d0) = V := ⟨_, rfl⟩
 have kS1 : Blk X1 w.heap.size 35 (zkx s b0 d0 a1 c1 a2 c2 a3 c3 a4 c4 a5 c5 a6 c6 a7 c7).toArray := by rw [← hX1]; exact kT0.set_ 1 _
 have BX1 : Below w.heap.size w X1 := by rw [← hX1]; exact (BX0.trans (hb0.mono BX0.size)).setCell (p := ⟨w.heap.size, 1, none⟩) (Nat.le_refl _) _
 have sz1 : X0.heap.size ≤ X1.heap.size := by rw [← hX1]; simpa [World.setCell] using hb0.size
 replace o0 : OwnE intE X1 X0.heap.size b0 d0 s.sl.refs := by rw [← hX1]; exact o0.far zq0 _
 have u0 : OwnE intE X1 X0.heap.size b0 d0 s.sl.refs := o0
 have hs01 : X1.heap.size ≤ X1.heap.size := Nat.le_refl _
 rw [hX1]
 clear hX1 hb0 kT0 q0_1 t0_1 tf0_1 kS0
 have zq1 := kS1.lt
 obtain ⟨-, -, q1_2, -⟩ := zc11 kS1
 go_wp2_with fail
 refine (ClnB_any a1 c1 s.sl.busy X1 (HS.out.r1.ext BX1) (by omega)).mono ?_
 rintro e1 w2 ⟨b1, d1, rfl, o1, hb1⟩
 have kT1 := kS1.below_ hb1 zq1
 have zt1 := kT1.lt
 obtain ⟨-, -, t1_2, -⟩ := zc11 kT1
 have tf1_2 := kT1.frozen_ 2
 go_upto_region 3 with fail
 obtain ⟨X2, hX2⟩ : ∃ V, w2.setCell ⟨w.heap.size, 2, none⟩ (.slice b1 s.sl.busy.length d1) = V := ⟨_, rfl⟩
 have kS2 : Blk X2 w.heap.size 35 (zkx s b0 d0 b1 d1 a2 c2 a3 c3 a4 c4 a5 c5 a6 c6 a7 c7).toArray := by rw [← hX2]; exact kT1.set_ 2 _
 have BX2 : Below w.heap.size w X2 := by rw [← hX2]; exact (BX1.trans (hb1.mono BX1.size)).setCell (p := ⟨w.heap.size, 2, none⟩) (Nat.le_refl _) _
 have sz2 : X1.heap.size ≤ X2.heap.size := by rw [← hX2]; simpa [World.setCell] using hb1.size
 replace o1 : OwnE boolE X2 X1.heap.size b1 d1 s.sl.busy := by rw [← hX2]; exact o1.far zq1 _
 replace o0 : OwnE intE X2 X0.heap.size b0 d0 s.sl.refs := by rw [← hX2]; exact (o0.ext hb1).far zq0 _
 rw [hX2]
 clear hX2 hb1 kT1 q1_2 t1_2 tf1_2 kS1
 have zq2 := kS2.lt
 obtain ⟨-, -, -, q2_3, -⟩ := zc11 kS2
 go_wp2_with fail
 refine (ClnW_any a2 c2 s.wr X2 (HS.out.r2.ext BX2) (by omega)).mono ?_
 rintro e2 w3 ⟨b2, d2, rfl, o2, hb2⟩
 have kT2 := kS2.below_ hb2 zq2
 have zt2 := kT2.lt
 obtain ⟨-, -, -, t2_3, -⟩ := zc11 kT2
 have tf2_3 := kT2.frozen_ 3
 go_upto_region 4 with fail
 obtain ⟨X3, hX3⟩ : ∃ V, w3.setCell ⟨w.heap.size, 3, none⟩ (.slice b2 s.wr.length d2) = V := ⟨_, rfl⟩
 have kS3 : Blk X3 w.heap.size 35 (zkx s b0 d0 b1 d1 b2 d2 a3 c3 a4 c4 a5 c5 a6 c6 a7 c7).toArray := by rw [← hX3]; exact kT2.set_ 3 _
 have BX3 : Below w.heap.size w X3 := by rw [← hX3]; exact (BX2.trans (hb2.mono BX2.size)).setCell (p := ⟨w.heap.size, 3, none⟩) (Nat.le_refl _) _
 have sz3 : X2.heap.size ≤ X3.heap.size := by rw [← hX3]; simpa [World.setCell] using hb2.size
 replace o2 : OwnE wrE X3 X2.heap.size b2 d2 s.wr := by rw [← hX3]; exact o2.far zq2 _
 replace o0 : OwnE intE X3 X0.heap.size b0 d0 s.sl.refs := by rw [← hX3]; exact (o0.ext hb2).far zq0 _
 replace o1 : OwnE boolE X3 X1.heap.size b1 d1 s.sl.busy := by rw [← hX3]; exact (o1.ext hb2).far zq1 _
 rw [hX3]
 clear hX3 hb2 kT2 q2_3 t2_3 tf2_3 kS2
 have zq3 := kS3.lt
 obtain ⟨-, -, -, -, q3_4, -⟩ := zc11 kS3
 go_wp2_with fail
 refine (ClnR_any a3 c3 s.rd X3 (HS.out.r3.ext BX3) (by omega)).mono ?_
 rintro e3 w4 ⟨b3, d3, rfl, o3, hb3⟩
 have kT3 := kS3.below_ hb3 zq3
 have zt3 := kT3.lt
 obtain ⟨-, -, -, -, t3_4, -⟩ := zc11 kT3
 have tf3_4 := kT3.frozen_ 4
 go_upto_region 5 with fail
 obtain ⟨X4, hX4⟩ : ∃ V, w4.setCell ⟨w.heap.size, 4, none⟩ (.slice b3 s.rd.length d3) = V := ⟨_, rfl⟩
 have kS4 : Blk X4 w.heap.size 35 (zkx s b0 d0 b1 d1 b2 d2 b3 d3 a4 c4 a5 c5 a6 c6 a7 c7).toArray := by rw [← hX4]; exact kT3.set_ 4 _
 have BX4 : Below w.heap.size w X4 := by rw [← hX4]; exact (BX3.trans (hb3.mono BX3.size)).setCell (p := ⟨w.heap.size, 4, none⟩) (Nat.le_refl _) _
 have sz4 : X3.heap.size ≤ X4.heap.size := by rw [← hX4]; simpa [World.setCell] using hb3.size
 replace o3 : OwnE rdE X4 X3.heap.size b3 d3 s.rd := by rw [← hX4]; exact o3.far zq3 _
 replace o0 : OwnE intE X4 X0.heap.size b0 d0 s.sl.refs := by rw [← hX4]; exact (o0.ext hb3).far zq0 _
 replace o1 : OwnE boolE X4 X1.heap.size b1 d1 s.sl.busy := by rw [← hX4]; exact (o1.ext hb3).far zq1 _
 replace o2 : OwnE wrE X4 X2.heap.size b2 d2 s.wr := by rw [← hX4]; exact (o2.ext hb3).far zq2 _
 rw [hX4]
 clear hX4 hb3 kT3 q3_4 t3_4 tf3_4 kS3
 have zq4 := kS4.lt
 obtain ⟨-, -, -, -, -, q4_5, -⟩ := zc11 kS4
 go_wp2_with fail
 refine (ClnI_any a4 c4 s.desc X4 (HS.out.r4.ext BX4) (by omega)).mono ?_
 rintro e4 w5 ⟨b4, d4, rfl, o4, hb4⟩
 have kT4 := kS4.below_ hb4 zq4
 have zt4 := kT4.lt
 obtain ⟨-, -, -, -, -, t4_5, -⟩ := zc11 kT4
 have tf4_5 := kT4.frozen_ 5
 go_upto_region 6 with fail
 obtain ⟨X5, hX5⟩ : ∃ V, w5.setCell ⟨w.heap.size, 5, none⟩ (.slice b4 s.desc.length d4) = V := ⟨_, rfl⟩
 have kS5 : Blk X5 w.heap.size 35 (zkx s b0 d0 b1 d1 b2 d2 b3 d3 b4 d4 a5 c5 a6 c6 a7 c7).toArray := by rw [← hX5]; exact kT4.set_ 5 _
 have BX5 : Below w.heap.size w X5 := by rw [← hX5]; exact (BX4.trans (hb4.mono BX4.size)).setCell (p := ⟨w.heap.size, 5, none⟩) (Nat.le_refl _) _
 have sz5 : X4.heap.size ≤ X5.heap.size := by rw [← hX5]; simpa [World.setCell] using hb4.size
 replace o4 : OwnE intE X5 X4.heap.size b4 d4 s.desc := by rw [← hX5]; exact o4.far zq4 _
 replace o0 : OwnE intE X5 X0.heap.size b0 d0 s.sl.refs := by rw [← hX5]; exact (o0.ext hb4).far zq0 _
 replace o1 : OwnE boolE X5 X1.heap.size b1 d1 s.sl.busy := by rw [← hX5]; exact (o1.ext hb4).far zq1 _
 replace o2 : OwnE wrE X5 X2.heap.size b2 d2 s.wr := by rw [← hX5]; exact (o2.ext hb4).far zq2 _
 replace o3 : OwnE rdE X5 X3.heap.size b3 d3 s.rd := by rw [← hX5]; exact (o3.ext hb4).far zq3 _
 rw [hX5]
 clear hX5 hb4 kT4 q4_5 t4_5 tf4_5 kS4
 have p04 : Part b0 d0 b4 d4 := u0.part o4 (by omega)
 have u4 : OwnE intE X5 X4.heap.size b4 d4 s.desc := o4
 have zq5 := kS5.lt
 obtain ⟨-, -, -, -, -, -, q5_6, -⟩ := zc11 kS5
 go_wp2_with fail
 refine (ClnC_any a5 c5 s.dk.cells X5 (HS.out.r5.ext BX5) (by omega)).mono ?_
 rintro e5 w6 ⟨b5, d5, rfl, o5, hb5⟩
 have kT5 := kS5.below_ hb5 zq5
 have zt5 := kT5.lt
 obtain ⟨-, -, -, -, -, -, t5_6, -⟩ := zc11 kT5
 have tf5_6 := kT5.frozen_ 6
 go_upto_region 7 with fail
 obtain ⟨X6, hX6⟩ : ∃ V, w6.setCell ⟨w.heap.size, 6, none⟩ (.slice b5 s.dk.cells.length d5) = V := ⟨_, rfl⟩
 have kS6 : Blk X6 w.heap.size 35 (zkx s b0 d0 b1 d1 b2 d2 b3 d3 b4 d4 b5 d5 a6 c6 a7 c7).toArray := by rw [← hX6]; exact kT5.set_ 6 _
 have BX6 : Below w.heap.size w X6 := by rw [← hX6]; exact (BX5.trans (hb5.mono BX5.size)).setCell (p := ⟨w.heap.size, 6, none⟩) (Nat.le_refl _) _
 have sz6 : X5.heap.size ≤ X6.heap.size := by rw [← hX6]; simpa [World.setCell] using hb5.size
 replace o5 : OwnE ctE X6 X5.heap.size b5 d5 s.dk.cells := by rw [← hX6]; exact o5.far zq5 _
 replace o0 : OwnE intE X6 X0.heap.size b0 d0 s.sl.refs := by rw [← hX6]; exact (o0.ext hb5).far zq0 _
 replace o1 : OwnE boolE X6 X1.heap.size b1 d1 s.sl.busy := by rw [← hX6]; exact (o1.ext hb5).far zq1 _
 replace o2 : OwnE wrE X6 X2.heap.size b2 d2 s.wr := by rw [← hX6]; exact (o2.ext hb5).far zq2 _
 replace o3 : OwnE rdE X6 X3.heap.size b3 d3 s.rd := by rw [← hX6]; exact (o3.ext hb5).far zq3 _
 replace o4 : OwnE intE X6 X4.heap.size b4 d4 s.desc := by rw [← hX6]; exact (o4.ext hb5).far zq4 _
 rw [hX6]
 clear hX6 hb5 kT5 q5_6 t5_6 tf5_6 kS5
 have zq6 := kS6.lt
 obtain ⟨-, -, -, -, -, -, -, q6_7, -⟩ := zc11 kS6
 go_wp2_with fail
 refine (ClnJ_any a6 c6 s.dk.jobs X6 (HS.out.r6.ext BX6) (by omega)).mono ?_
 rintro e6 w7 ⟨b6, d6, rfl, o6, hb6⟩
 have kT6 := kS6.below_ hb6 zq6
 have zt6 := kT6.lt
 obtain ⟨-, -, -, -, -, -, -, t6_7, -⟩ := zc11 kT6
 have tf6_7 := kT6.frozen_ 7
 go_upto_region 8 with fail
 obtain ⟨X7, hX7⟩ : ∃ V, w7.setCell ⟨w.heap.size, 7, none⟩ (.slice b6 s.dk.jobs.length d6) = V := ⟨_, rfl⟩
 have kS7 : Blk X7 w.heap.size 35 (zkx s b0 d0 b1 d1 b2 d2 b3 d3 b4 d4 b5 d5 b6 d6 a7 c7).toArray := by rw [← hX7]; exact kT6.set_ 7 _
 have BX7 : Below w.heap.size w X7 := by rw [← hX7]; exact (BX6.trans (hb6.mono BX6.size)).setCell (p := ⟨w.heap.size, 7, none⟩) (Nat.le_refl _) _
 have sz7 : X6.heap.size ≤ X7.heap.size := by rw [← hX7]; simpa [World.setCell] using hb6.size
 replace o6 : OwnE jbE X7 X6.heap.size b6 d6 s.dk.jobs := by rw [← hX7]; exact o6.far zq6 _
 replace o0 : OwnE intE X7 X0.heap.size b0 d0 s.sl.refs := by rw [← hX7]; exact (o0.ext hb6).far zq0 _
 replace o1 : OwnE boolE X7 X1.heap.size b1 d1 s.sl.busy := by rw [← hX7]; exact (o1.ext hb6).far zq1 _
 replace o2 : OwnE wrE X7 X2.heap.size b2 d2 s.wr := by rw [← hX7]; exact (o2.ext hb6).far zq2 _
 replace o3 : OwnE rdE X7 X3.heap.size b3 d3 s.rd := by rw [← hX7]; exact (o3.ext hb6).far zq3 _
 replace o4 : OwnE intE X7 X4.heap.size b4 d4 s.desc := by rw [← hX7]; exact (o4.ext hb6).far zq4 _
 replace o5 : OwnE ctE X7 X5.heap.size b5 d5 s.dk.cells := by rw [← hX7]; exact (o5.ext hb6).far zq5 _
 rw [hX7]
 clear hX7 hb6 kT6 q6_7 t6_7 tf6_7 kS6
 have zq7 := kS7.lt
 obtain ⟨-, -, -, -, -, -, -, -, -, -, q7_10⟩ := zc11 kS7
 go_wp2_with fail
 refine (ClnI_any a7 c7 s.po.free X7 (HS.out.r7.ext BX7) (by omega)).mono ?_
 rintro e7 w8 ⟨b7, d7, rfl, o7, hb7⟩
 have kT7 := kS7.below_ hb7 zq7
 have zt7 := kT7.lt
 obtain ⟨-, -, -, -, -, -, -, -, -, -, t7_10⟩ := zc11 kT7
 have tf7_10 := kT7.frozen_ 10
 go_upto_region 9 with fail
 obtain ⟨X8, hX8⟩ : ∃ V, w8.setCell ⟨w.heap.size, 10, none⟩ (.slice b7 s.po.free.length d7) = V := ⟨_, rfl⟩
 have kS8 : Blk X8 w.heap.size 35 (zkx s b0 d0 b1 d1 b2 d2 b3 d3 b4 d4 b5 d5 b6 d6 b7 d7).toArray := by rw [← hX8]; exact kT7.set_ 10 _
 have BX8 : Below w.heap.size w X8 := by rw [← hX8]; exact (BX7.trans (hb7.mono BX7.size)).setCell (p := ⟨w.heap.size, 10, none⟩) (Nat.le_refl _) _
 have sz8 : X7.heap.size ≤ X8.heap.size := by rw [← hX8]; simpa [World.setCell] using hb7.size
 replace o7 : OwnE intE X8 X7.heap.size b7 d7 s.po.free := by rw [← hX8]; exact o7.far zq7 _
 replace o0 : OwnE intE X8 X0.heap.size b0 d0 s.sl.refs := by rw [← hX8]; exact (o0.ext hb7).far zq0 _
 replace o1 : OwnE boolE X8 X1.heap.size b1 d1 s.sl.busy := by rw [← hX8]; exact (o1.ext hb7).far zq1 _
 replace o2 : OwnE wrE X8 X2.heap.size b2 d2 s.wr := by rw [← hX8]; exact (o2.ext hb7).far zq2 _
 replace o3 : OwnE rdE X8 X3.heap.size b3 d3 s.rd := by rw [← hX8]; exact (o3.ext hb7).far zq3 _
 replace o4 : OwnE intE X8 X4.heap.size b4 d4 s.desc := by rw [← hX8]; exact (o4.ext hb7).far zq4 _
 replace o5 : OwnE ctE X8 X5.heap.size b5 d5 s.dk.cells := by rw [← hX8]; exact (o5.ext hb7).far zq5 _
 replace o6 : OwnE jbE X8 X6.heap.size b6 d6 s.dk.jobs := by rw [← hX8]; exact (o6.ext hb7).far zq6 _
 rw [hX8]
 clear hX8 hb7 kT7 q7_10 t7_10 tf7_10 kS7
 have p47 : Part b4 d4 b7 d7 := u4.part o7 (by omega)
 obtain ⟨g0, g1, g2, g3, g4, g5, g6, g7, g8, g9, g10⟩ := zc11 kS8
 have zg := kS8.lt
 go_wp2_with fail
 go_ret
 have BA : Below X8.heap.size X8 (X8.alloc (.cells (zkx s b0 d0 b1 d1 b2 d2 b3 d3 b4 d4 b5 d5 b6 d6 b7 d7).toArray 87)) := (Below.refl _ _).alloc (Nat.le_refl _) _
 refine ⟨X8.heap.size, ⟨b0, d0, b1, d1, b2, d2, b3, d3, b4, d4, b5, d5, b6, d6, b7, d7⟩, rfl, ⟨Blk.new_ rfl rfl, ⟨(o0.ext BA).base_ ?_, (o1.ext BA).base_ ?_, ((o2.ext BA).base_ ?_).mn, (o3.ext BA).base_ ?_, (o4.ext BA).base_ ?_, (o5.ext BA).base_ ?_, (o6.ext BA).base_ ?_, (o7.ext BA).base_ ?_, p04, p47.symm⟩, ?_⟩, BX8.trans (BA.mono BX8.size)⟩ <;> omega
def frB (g : Nat → Bool) : Array Value := ((List.range 256).map fun n => Value.bool (g n)).toArray
theorem frB_at (g : Nat → Bool) {m : Nat} (h : m < 256) : (frB g)[m]? = some (.bool (g m)) := by
 unfold frB
 rw [List.getElem?_toArray, List.getElem?_map, List.getElem?_range h]
 rfl
theorem frB_set (g : Nat → Bool) (m : Nat) : (frB g).setIfInBounds m (.bool true) = frB (fun n => g n || n == m) := by
 unfold frB
 rw [List.setIfInBounds_toArray]
 congr 1
 apply List.ext_getElem?
 intro i
 by_cases h : m = i
 ·subst h
  by_cases hm : m < 256
  ·rw [List.getElem?_set_self (by simpa using hm), List.getElem?_map, List.getElem?_range hm]
   simp
  ·rw [List.getElem?_eq_none (by simp; omega), List.getElem?_eq_none (by simp; omega)]
 ·rw [List.getElem?_set_ne h, List.getElem?_map, List.getElem?_map]
  by_cases hi : i < 256
  ·rw [List.getElem?_range hi]
   have : (i == m) = false := by simpa using Ne.symm h
   simp [this]
  ·rw [List.getElem?_eq_none (by simp; omega)]
   rfl
theorem frB_congr {g g' : Nat → Bool} (h : ∀ n, n < 256 → g n = g' n) : frB g = frB g' := by
 unfold frB
 congr 1
 exact List.map_congr_left fun n hn => by rw [h n (List.mem_range.1 hn)]
theorem zc256 : Tryz.zeroCells163 = frB (fun _ => false) := by kernel_rfl
theorem SR.of_frB {w : World} {B : Nat} {t : TypeId} {g : Nat → Bool} (h : Blk w B t (frB g)) {n : Nat} (hn : n ≤ 256) : SR boolE w (some ⟨B, 0, none⟩) ((List.range n).map g) := fun hp => by
 refine ⟨B, 0, rfl, h.lt, fun j x hx => ?_⟩
 have hl : (boolE.flat ((List.range n).map g)).length = n := by rw [Elt.flat_length]; simp [boolE]
 have hj : j < n := by have := (List.getElem?_eq_some_iff.1 hx).1; omega
 have h1 := Elt.flat_at (E := boolE) (l := (List.range n).map g) (k := j) (j := 0) (x := g j) (u := .bool (g j)) (by rw [List.getElem?_map, List.getElem?_range hj]; rfl) rfl
 rw [show j * boolE.sz + 0 = j by show j * 1 + 0 = j; omega, hx] at h1
 injection h1 with h1
 subst h1
 rw [Nat.zero_add]
 exact (h.cell_ j).trans (frB_at g (by omega))
theorem bs_zero : frB (fun _ => false) = frB (bsW []) := frB_congr fun n _ => by simp [bsW]
theorem bs_succ {js : List Jb} {k : Nat} {j : Jb} (h : js[k]? = some j) {q : Nat} (hq : j.slot = (q : Int)) : (frB (bsW (js.take k))).setIfInBounds q (.bool true) = frB (bsW (js.take (k + 1))) := by
 rw [frB_set]
 refine frB_congr fun n _ => ?_
 unfold bsW
 rw [List.take_add_one, h]
 show _ = List.any (js.take k ++ [j]) _
 rw [List.any_append]
 congr 1
 show (n == q) = (decide (j.slot = (n : Int)) || false)
 rw [hq, Bool.or_false]
 by_cases e : n = q
 ·subst e; simp
 ·have : ¬ (q : Int) = (n : Int) := fun h => e (by omega)
  simp [e, this]
theorem wt_kinv : ∀ key l, keyOf Tryz.prog wtT.K key = some l → ∃ k, key = wtT.kv k := fun key l h => by
 have h2 : mapKey Tryz.prog 3 key = some l := by rw [← keyOf_int Tryz.underlying3]; exact h
 unfold mapKey at h2
 rw [Tryz.underlying3] at h2
 split at h2
 ·rename_i h3; cases h3
 ·rename_i q q' n h3
  injection h3 with h3
  injection h3 with h3
  subst h3
  split at h2
  ·rename_i h4
   exact ⟨n, by rw [h4.1]; rfl⟩
  ·cases h2
 ·rename_i h3; cases h3
 ·cases h2
theorem all_step {m : Int → Option (Bool × Int)} {left : Int → Bool} {f : Int → Int} {ok : Bool} (h : ok = true ↔ ∀ p v, m p = some v → left p = false → 0 < f v.2) {p0 : Int} {v0 : Bool × Int} (hk : m p0 = some v0) :
  (ok && decide (0 < f v0.2)) = true ↔ ∀ p v, m p = some v → (left p && !decide (p = p0)) = false → 0 < f v.2 := by
 rw [Bool.and_eq_true, h, decide_eq_true_eq]
 constructor
 ·rintro ⟨h1, h2⟩ p v hp hl
  by_cases e : p = p0
  ·subst e
   rw [hk] at hp
   injection hp with hp
   subst hp
   exact h2
  ·exact h1 p v hp (by simpa [e] using hl)
 ·intro h
  exact ⟨fun p v hp hl => h p v hp (by simp [hl]), h p0 v0 hk (by simp)⟩
theorem ag_end {s : Swp} {ok : Bool} {left : Int → Bool} (h1 : s.sl.refs.length = s.dk.cells.length ∧ s.dk.room = s.po.size ∧ (s.wr.length : Int) ≤ s.cap) (h2 : mtW s.dk.jobs true s.wr = true) (h3 : mtW s.dk.jobs false s.rd = true) (h4 : s.sl.busy = (List.range s.sl.busy.length).map (bsW s.dk.jobs)) (h5 : s.desc.length = s.dk.jobs.length)
  (h6 : srt s.desc = tknP s.po) (h7 : wtok s = true) (h8 : ok = true ↔ ∀ p v, lkV (wtV s) p = some v → left p = false → 0 < refT s.sl v.2.toNat) (h9 : ∀ k v, lkV (wtV s) k = some v → left k = false) (hs : ∀ {d t : List Int}, t.Pairwise (· < ·) → (srt d = t ↔ t.length = d.length ∧ ∀ x ∈ t, x ∈ d)) : ok = agW s := by
 have h6 := (hs (tknP_asc _)).1 h6
 have hw := h7
 unfold wtok at hw
 rw [Bool.and_eq_true, decide_eq_true_eq, List.all_eq_true] at hw
 have key : ok = true ↔ agW s = true := by
  rw [h8, agW_ok]
  constructor
  ·intro h
   refine ⟨h1, mtW_iff.1 h2, mtW_iff.1 h3, h4, h5, h6.1, h6.2, ⟨hw.1, fun x hx => by simpa using hw.2 x hx⟩, fun x hx => ?_⟩
   rw [wtV_wtW] at hx
   obtain ⟨y, hy, rfl⟩ := List.mem_map.1 hx
   have hl := (wtV_lk s h7 (p := y.1) (v := y.2)).2 hy
   exact h _ _ hl (h9 _ _ hl)
  ·intro h p v hp _
   have hm := (wtV_lk s h7).1 hp
   have := h.2.2.2.2.2.2.2.2 (p, v.2) (by rw [wtV_wtW]; exact List.mem_map.2 ⟨_, hm, rfl⟩)
   exact this
 cases ok with
 | false => exact (Bool.eq_false_iff.2 fun e => by have := key.2 e; cases this).symm
 | true => exact (key.1 rfl).symm
theorem wt_range {s : Swp} (hd : OkD s.dk) (hl : s.sl.refs.length = s.dk.cells.length) (h1 : jvs s.dk.jobs true = vvs s.wr) (h2 : jvs s.dk.jobs false = vvs s.rd) {p : Int} {v : Bool × Int} (h : (p, v) ∈ wtV s) : 0 ≤ v.2 ∧ v.2 < s.sl.refs.length := by
 have key : ∀ (b : Bool) (vs : List Wr), jvs s.dk.jobs b = vvs vs → ∀ x ∈ vs, 0 ≤ x.1 ∧ x.1 < s.sl.refs.length := fun b vs hm x hx => by
  have hv : (x.1, x.2.1) ∈ jvs s.dk.jobs b := by rw [hm]; exact vvs_mem.2 ⟨x, hx, rfl, rfl⟩
  obtain ⟨j, hj, _, hs, _⟩ := jvs_mem.1 hv
  have := hd.inr j hj
  dsimp only at hs
  omega
 rcases List.mem_append.1 h with h | h
 ·obtain ⟨x, hx, _, e⟩ := wtv_mem.1 h
  injection e with _ e; subst e
  exact key _ _ h1 x hx
 ·obtain ⟨x, hx, _, e⟩ := wtv_mem.1 h
  injection e with _ e; subst e
  exact key _ _ h2 x hx
theorem wpList_nextWt {ops : Array Oper} {rest : List Oper} {o : Oper} {a : Act} {Z : Exit → Act → World → Prop} (w : World) (hg : o.guard = none) (it : Operand) (hop : o.op = Op.next it false)
  (B r n : Nat) (m : Int → Option (Bool × Int)) (left : Int → Bool) (cnt : Nat) (hit : a.eval it = .pointer (some ⟨r, 0, none⟩)) (h : RngT wtT w B r n m left cnt)
  (hDone : (∀ k v, m k = some v → left k = false) → wpList Tryz.prog ops Z rest (a.put o.dst (.tuple #[.bool false])) w)
  (hMore : ∀ (k : Int) (v0 : Bool) (v1 : Int) (w' : World) (cnt' : Nat), m k = some (v0, v1) → left k = true → RngT wtT w' B r n m (fun j => left j && !decide (j = k)) cnt' → cnt' < cnt → w.grownBy w' (some r) → w'.heap.size = w.heap.size →
   (Instr.entry (.pointer (some ⟨r, 0, none⟩))).run Tryz.prog w' = .ok (.tuple #[.int .i64 k, .agg #[.bool v0, .int .i64 v1]]) w' → wpList Tryz.prog ops Z rest (a.put o.dst (.tuple #[.bool true, .int .i64 k, .agg #[.bool v0, .int .i64 v1]])) w') : wpList Tryz.prog ops Z (o :: rest) a w :=
 wpList_nextT wtT w hg it hop B r n m left cnt wt_kinv hit h hDone fun k v w' cnt' h1 h2 h3 h4 h5 h6 h7 => hMore k v.1 v.2 w' cnt' h1 h2 h3 h4 h5 h6 h7
theorem srt_len (l : List Int) : (srt l).length = l.length := by simp [srt]
theorem desc_sorted {d t : List Int} (ht : t.Pairwise (· < ·)) : srt d = t ↔ t.length = d.length ∧ ∀ x ∈ t, x ∈ d := by
 have hp : (srt d).Perm d := List.mergeSort_perm d _
 constructor
 ·rintro rfl
  exact ⟨hp.length_eq, fun x hx => hp.mem_iff.1 hx⟩
 ·rintro ⟨h1, h2⟩
  obtain ⟨h3, h4⟩ := sub_all (asc_nodup ht) h2 h1
  have hpt : t.Perm d := (List.perm_ext_iff_of_nodup (asc_nodup ht) h3).2 fun x => ⟨h2 x, h4 x⟩
  have hs : (srt d).Pairwise (· ≤ ·) := by
   have := List.pairwise_mergeSort (le := fun x y : Int => decide (x ≤ y)) (fun a b c h1 h2 => by simp at *; omega) (fun a b => by simp; omega) d
   exact this.imp fun h => by simpa using h
  exact List.Perm.eq_of_pairwise (fun a b _ _ h1 h2 => Int.le_antisymm h1 h2) hs (ht.imp fun h => Int.le_of_lt h) (hp.trans hpt.symm)
theorem agrees_any (L : Lay) (s : Swp) (w : World) (h : SwR w L s) (hf : Few s) (hwf : ∀ v ∈ s.rd, (Lit.int .i64 v.2.2).wf = true) (h1 : OkT s.sl) (h2 : Valid s.wr) (h3 : OkD s.dk) (h4 : OkP s.po) (hz : TZ w) :
  Calls Tryz.prog 63 #[swV L s] w fun e w' => e = .returned (.bool (agW s)) ∧ Below w.heap.size w w' := by
 obtain ⟨a0, c0, a1, c1, a2, c2, a3, c3, a4, c4, a5, c5, a6, c6, a7, c7⟩ := L
 have HS := Lib.hid h
 have HZ := Lib.hid hz
 have H1 := Lib.hid h1
 have H2 := Lib.hid h2
 have H3 := Lib.hid h3
 have H4 := Lib.hid h4
 have HWF := Lib.hid hwf
 have HW0 : 0 < w.heap.size := hz.pos
 obtain ⟨f0, f1, f2, f3, f4, f5, f6, f7⟩ := hf
 clear h hz h1 h2 h3 h4 hwf
 unfold swV swC
 obtain ⟨X, hX⟩ : ∃ X, w.alloc (.cells (zkx s a0 c0 a1 c1 a2 c2 a3 c3 a4 c4 a5 c5 a6 c6 a7 c7).toArray 35) = X := ⟨_, rfl⟩
 have kX : Blk X w.heap.size 35 (zkx s a0 c0 a1 c1 a2 c2 a3 c3 a4 c4 a5 c5 a6 c6 a7 c7).toArray := by rw [← hX]; exact zbk
 have BX : Below w.heap.size w X := by rw [← hX]; exact zbl
 obtain ⟨g1, hg1⟩ : ∃ b, ((s.sl.refs.length : Int) != (s.dk.cells.length : Int)) = b := ⟨_, rfl⟩
 obtain ⟨g2, hg2⟩ : ∃ b, (s.dk.room != s.po.size) = b := ⟨_, rfl⟩
 obtain ⟨g3, hg3⟩ : ∃ b, decide ((s.wr.length : Int) > s.cap) = b := ⟨_, rfl⟩
 have HG1 := Lib.hid hg1
 have HG2 := Lib.hid hg2
 have HG3 := Lib.hid hg3
 have zkX := kX.lt
 obtain ⟨q0, q1, q2, q3, -, -, q6, q7, q8, q9, -⟩ := zc11 kX
 cases g1 with
 | true =>
  have HE : Hid (agW s = false) := by
   show _ = _
   refine Bool.eq_false_iff.2 fun e => ?_
   have hag := agW_ok.1 e
   have h := HG1.out
   rw [hag.1.1] at h
   simp at h
  clear hg2 hg3
  go_enter Tryz.func63, Tryz.ntmps63
  go_wp2_with fail
  (try rw [hX])
  go_wp2_with fail
  go_ret
  exact ⟨by rw [HE.out]; rfl, BX⟩
 | false =>
  cases g2 with
  | true =>
   have HE : Hid (agW s = false) := by
    show _ = _
    refine Bool.eq_false_iff.2 fun e => ?_
    have hag := agW_ok.1 e
    have h := HG2.out
    rw [hag.1.2.1] at h
    simp at h
   clear hg3
   go_enter Tryz.func63, Tryz.ntmps63
   go_wp2_with fail
   (try rw [hX])
   go_wp2_with fail
   go_ret
   exact ⟨by rw [HE.out]; rfl, BX⟩
  | false =>
   cases g3 with
   | true =>
    have HE : Hid (agW s = false) := by
     show _ = _
     refine Bool.eq_false_iff.2 fun e => ?_
     have hag := agW_ok.1 e
     have h := HG3.out
     have := hag.1.2.2
     simp at h
     omega
    go_enter Tryz.func63, Tryz.ntmps63
    go_wp2_with fail
    (try rw [hX])
    go_wp2_with fail
    go_ret
    exact ⟨by rw [HE.out]; rfl, BX⟩
   | false =>
    go_enter Tryz.func63, Tryz.ntmps63
    go_wp2_with fail
    (try rw [hX])
    clear hX q0 q1 q2 q8 q9
    refine (matchW_any a6 a2 c6 c2 s.dk.jobs true s.wr X (HS.out.r6.ext BX) (HS.out.r2.ext BX) (by omega) (by omega)).mono ?_
    rintro e1 w1 ⟨rfl, hb1⟩
    have B1 := zbt BX hb1
    replace kX := kX.below_ hb1 kX.lt
    clear q3 q7 zkX hb1
    obtain ⟨m1, hm1⟩ : ∃ b, mtW s.dk.jobs true s.wr = b := ⟨_, rfl⟩
    rw [hm1]
    have HM1 := Lib.hid hm1
    clear hm1
    cases m1 with
    | false =>
     have HE : Hid (agW s = false) := by
      show _ = _
      refine Bool.eq_false_iff.2 fun e => ?_
      have hag := agW_ok.1 e
      have h := mtW_iff.2 hag.2.1
      rw [HM1.out] at h
      cases h
     go_wp2_with fail
     go_ret
     exact ⟨by rw [HE.out]; rfl, B1⟩
    | true =>
     have zkX := kX.lt
     obtain ⟨-, -, -, -, q4, -, -, q7, -⟩ := zc11 kX
     go_wp2_with fail
     refine (matchR_any a6 a3 c6 c3 s.dk.jobs false s.rd w1 (HS.out.r6.ext B1) (HS.out.r3.ext B1) (by omega) (by omega)).mono ?_
     rintro e2 w2 ⟨rfl, hb2⟩
     have B2 := zbt B1 hb2
     replace kX := kX.below_ hb2 kX.lt
     clear q4 q7 zkX hb2 B1
     obtain ⟨m2, hm2⟩ : ∃ b, mtW s.dk.jobs false s.rd = b := ⟨_, rfl⟩
     rw [hm2]
     have HM2 := Lib.hid hm2
     clear hm2
     cases m2 with
     | false =>
      have HE : Hid (agW s = false) := by
       show _ = _
       refine Bool.eq_false_iff.2 fun e => ?_
       have hag := agW_ok.1 e
       have h := mtW_iff.2 hag.2.2.1
       rw [HM2.out] at h
       cases h
      go_wp2_with fail
      go_ret
      exact ⟨by rw [HE.out]; rfl, B2⟩
     | true =>
      have zkX := kX.lt
      obtain ⟨-, -, -, -, -, -, -, q7, -⟩ := zc11 kX
      go_wp2_with fail
      obtain ⟨V, hV⟩ : ∃ V, w2.alloc (.cells Tryz.zeroCells163 163) = V := ⟨_, rfl⟩
      have kV : Blk V w2.heap.size 163 (frB (bsW (s.dk.jobs.take 0))) := by
       rw [← hV]
       show Blk _ _ _ (frB (bsW []))
       rw [← bs_zero, ← zc256]
       exact Blk.new_ rfl rfl
      have BV := zab hV
      rw [hV]
      clear hV q7
      go_loopw [56] (fun i wr => ∃ k, k ≤ s.dk.jobs.length ∧ i = .int .i64 k ∧ Hid (Blk wr w2.heap.size 163 (frB (bsW (s.dk.jobs.take k)))) ∧ Below w2.heap.size w2 wr) (fun i _ => s.dk.jobs.length - (intOf i).toNat)
      case atStart => exact ⟨0, by omega, rfl, kV, BV⟩
      case round =>
       clear kV BV
       obtain ⟨k, hk, rfl, HB, hb⟩ := hrel
       by_cases hlt : k < s.dk.jobs.length
       ·have i1 : (k : Int) < s.dk.jobs.length := by omega
        obtain ⟨b, off, x, rfl, hbl, hx, hc⟩ := (HS.out.r6.ext (B2.trans (hb.mono B2.size))).at_ hlt
        have hinr := H3.out.inr x (List.mem_of_getElem? hx)
        have hcl := H3.out.cells
        obtain ⟨jw, js, jf, ⟨c0_, c1_, c2_, c3_, c4_, c5_, c6_, c7_⟩⟩ := x
        dsimp only at hinr
        obtain ⟨q, rfl⟩ : ∃ q : Nat, js = q := ⟨js.toNat, by omega⟩
        have hq : q < 256 := by omega
        have HQ := Lib.hid (bs_succ hx rfl)
        clear hx hinr hcl
        have e0 : wr.cell? ⟨b, off + k * 11, none⟩ = some (.bool jw) := hc 0 _ rfl
        have e1 : wr.cell? ⟨b, off + k * 11 + 1, none⟩ = some (.int .i64 (q : Nat)) := hc 1 _ rfl
        have e2 : wr.cell? ⟨b, off + k * 11 + 2, none⟩ = some (.int .i64 jf) := hc 2 _ rfl
        have e3 : wr.cell? ⟨b, off + k * 11 + 3, none⟩ = some (.int .u64 c0_) := hc 3 _ rfl
        have e4 : wr.cell? ⟨b, off + k * 11 + 4, none⟩ = some (.int .u64 c1_) := hc 4 _ rfl
        have e5 : wr.cell? ⟨b, off + k * 11 + 5, none⟩ = some (.int .u64 c2_) := hc 5 _ rfl
        have e6 : wr.cell? ⟨b, off + k * 11 + 6, none⟩ = some (.int .u64 c3_) := hc 6 _ rfl
        have e7 : wr.cell? ⟨b, off + k * 11 + 7, none⟩ = some (.int .u64 c4_) := hc 7 _ rfl
        have e8 : wr.cell? ⟨b, off + k * 11 + 8, none⟩ = some (.int .u64 c5_) := hc 8 _ rfl
        have e9 : wr.cell? ⟨b, off + k * 11 + 9, none⟩ = some (.int .u64 c6_) := hc 9 _ rfl
        have e10 : wr.cell? ⟨b, off + k * 11 + 10, none⟩ = some (.int .u64 c7_) := hc 10 _ rfl
        obtain ⟨V6, hV6⟩ : ∃ V6, wr.alloc (.cells (zkj jw (q : Nat) jf c0_ c1_ c2_ c3_ c4_ c5_ c6_ c7_).toArray 115) = V6 := ⟨_, rfl⟩
        have kJ := za hV6
        have B6 := zab hV6
        have zJ := kJ.lt
        obtain ⟨-, j1, -⟩ := zc11 kJ
        have zr := HB.out.lt
        have kA := HB.out.below_ B6 zr
        have zA := kA.lt
        have hat := frB_at (bsW (s.dk.jobs.take k)) hq
        generalize frB (bsW (s.dk.jobs.take k)) = F0 at kA HQ hat
        have c4 := (kA.cell_ q).trans hat
        have f4 := kA.frozen_ q
        have hq3 : (q : Int) < 256 := by omega
        have hq4 : ((q : Int)).toNat = q := by omega
        clear hat
        go_upto_region 11 with fail
        (try rw [hV6])
        clear hV6 e0 e1 e2 e3 e4 e5 e6 e7 e8 e9 e10
        go_wp2_with fail
        go_roundw
        case rel => exact ⟨k + 1, by omega, by go_num, by show Blk _ _ _ _; rw [← HQ.out]; exact kA.set_ _ _, (hb.trans (B6.mono hb.size)).setCell (by simp) _⟩
        case measure => simp [intOf]; omega
       ·obtain rfl : k = s.dk.jobs.length := by omega
        obtain ⟨W3, rfl⟩ : ∃ W3, W3 = wr := ⟨_, rfl⟩
        rw [List.take_length] at HB
        have B3 := zbt B2 hb
        replace kX := kX.below_ hb kX.lt
        clear zkX
        obtain ⟨BL, hBL⟩ : ∃ BL, (List.range s.sl.busy.length).map (bsW s.dk.jobs) = BL := ⟨_, rfl⟩
        have HBN : Hid (BL.length = s.sl.busy.length) := by show _ = _; rw [← hBL]; simp
        have HBL := Lib.hid hBL
        have HSA : Hid (SR boolE W3 (some ⟨w2.heap.size, 0, none⟩) BL) := by show SR _ _ _ _; rw [← hBL]; exact SR.of_frB HB.out (by omega)
        obtain ⟨eqv, heqv⟩ : ∃ b, decide (BL = s.sl.busy) = b := ⟨_, rfl⟩
        have HEQV := Lib.hid heqv
        have HEQ : Hid (∀ W', Below W3.heap.size W3 W' → Calls Tryz.prog 126 #[.slice (some ⟨w2.heap.size, 0, none⟩) s.sl.busy.length 256, .slice a1 s.sl.busy.length c1] W' fun e w' => e = .returned (.bool eqv) ∧ Below W'.heap.size W' w') := by
         show ∀ W', _
         intro W' hW'
         have h := EqB_any (some ⟨w2.heap.size, 0, none⟩) a1 256 c1 BL s.sl.busy W' (HSA.out.ext hW') (HS.out.r1.ext (B3.trans (hW'.mono B3.size))) (by rw [HBN.out]; omega) (by omega)
         rw [HBN.out, HEQV.out] at h
         exact h
        have i2 : (s.sl.busy.length : Int) ≤ 256 := by omega
        clear hBL heqv hk hlt
        go_wp2_with fail
        refine zrg [0, 0, 1, 0, 0, 0, 0, 1, 1, 0] [[], [], [], [], [], [], [], [], [], []] [.is ?_, .is ?_, .kn ?_, .is ?_, .is (.slice (some ⟨w2.heap.size, 0, none⟩) s.sl.busy.length 256), .is ?_, .is ?_, .kn ?_, .kn (.bool eqv), .is ?_] [] (lts_is (lts_is (lts_kn (lts_is (lts_is (lts_is (lts_is (lts_kn (lts_kn (lts_is lts_nil)))))))))) (fun W0 hb0 hz0 => ?_)
        rotate_left 8
        have kW := kX.below_ hb0 kX.lt
        have zK := kW.lt
        have zA0 := (HB.out.below_ hb0 HB.out.lt).lt
        obtain ⟨-, -, y2, -⟩ := zc11 kW
        refine zqp ?_
        refine zqp ?_
        refine zqT (fun w hbw hd => ?_) ?_
        ·have y2 := cell_keep hbw y2 zK
         exact zgs
        refine zqp ?_
        refine zqP (fun w => ?_) ?_
        ·go_simp
         first | done | rfl
        refine zqp ?_
        refine zqp ?_
        refine zqT (fun w hbw hd => ?_) ?_
        ·have y2 := cell_keep hbw y2 zK
         exact zgs
        refine zqc (fun w hbw hd K Q' hK => ?_) ?_
        ·clear hd
         go_simp
         refine (HEQ.out _ (hb0.trans (hbw.mono hb0.size))).mono ?_
         rintro e y ⟨rfl, hy⟩
         go_wp2_with fail
         exact hK.out _ _ _ zpt zbm rfl
        refine zqp ?_
        refine chn_end (fun wz lo hi hbz hd hR => ?_)
        have B4 : Below w.heap.size w wz := B3.trans ((hb0.trans (hbz.mono hb0.size)).mono B3.size)
        replace kX := kX.below_ (hb0.trans (hbz.mono hb0.size)) kX.lt
        clear hd hR y2
        refine late_none ?_
        cases eqv with
        | false =>
         have HE : Hid (agW s = false) := by
          show _ = _
          refine Bool.eq_false_iff.2 fun e => ?_
          have hag := agW_ok.1 e
          have h := of_decide_eq_false HEQV.out
          rw [← HBL.out] at h
          exact h hag.2.2.2.1.symm
         go_wp2_with fail
         go_ret
         exact ⟨by rw [HE.out]; rfl, B4⟩
        | true =>
         have zkX := kX.lt
         obtain ⟨-, -, -, -, -, -, -, -, -, q9, q10⟩ := zc11 kX
         go_wp2_with fail
         refine (pTaken_any a7 c7 s.po wz H4.out (HS.out.r7.ext B4) (HZ.out.ext HW0 B4)).mono ?_
         rintro e5 w5 ⟨tA, tc, rfl, ht, hb5⟩
         have B5 := zbt B4 hb5
         replace kX := kX.below_ hb5 kX.lt
         obtain ⟨T, hT⟩ : ∃ T, tknP s.po = T := ⟨_, rfl⟩
         rw [hT] at ht
         rw [hT]
         have HT := Lib.hid hT
         have HTS : Hid (SR intE w5 tA T) := ht.sr
         have HTA : Hid (T.Pairwise (· < ·)) := by show List.Pairwise _ _; rw [← hT]; exact tknP_asc _
         have hTl : T.length ≤ 1000 := by
          have h := tkn_free H4.out
          have h2 := H4.out.size
          rw [hT] at h
          omega
         clear hT ht hb5 q9 q10 zkX HEQ HSA
         have zkX := kX.lt
         obtain ⟨-, -, -, -, -, q5, -, q7, -⟩ := zc11 kX
         obtain ⟨g4, hg4⟩ : ∃ b, ((s.desc.length : Int) != (s.dk.jobs.length : Int)) = b := ⟨_, rfl⟩
         have HG4 := Lib.hid hg4
         cases g4 with
         | true =>
          have HE : Hid (agW s = false) := by
           show _ = _
           refine Bool.eq_false_iff.2 fun e => ?_
           have hag := agW_ok.1 e
           have h := HG4.out
           rw [hag.2.2.2.2.1] at h
           simp at h
          go_wp2_with fail
          go_ret
          exact ⟨by rw [HE.out]; rfl, B5⟩
         | false =>
          go_wp2_with fail
          refine (values_any a4 s.desc.length c4 w5).mono ?_
          rintro e6 w6 ⟨rfl, rfl⟩
          have B6 : Below w.heap.size w (w5.alloc (.cells #[.slice a4 s.desc.length c4] 22)) := B5.alloc B5.size _
          go_wp2_with fail
          refine (sortedV_any w5.heap.size a4 c4 s.desc _ ((HS.out.r4.ext B6).sl) (by omega) (Blk.new_ rfl rfl)).mono ?_
          rintro e7 w7 ⟨sA, sc, rfl, hs7, hb7⟩
          have B7 := zbt B6 hb7
          have h57 : Below w5.heap.size w5 w7 := ((Below.refl _ w5).alloc (Nat.le_refl _) _).trans (hb7.mono (by simp))
          replace kX := kX.below_ h57 kX.lt
          obtain ⟨eq2, heq2⟩ : ∃ b, decide (srt s.desc = T) = b := ⟨_, rfl⟩
          have HEQ2 := Lib.hid heq2
          have HE2 := EqI_any sA tA sc tc (srt s.desc) T w7 (SR.of_sl hs7) (HTS.out.ext h57) (by rw [srt_len]; omega) hTl
          rw [srt_len, heq2] at HE2
          have HE3 := Lib.hid HE2
          clear HE2 heq2 hs7 hb7 q5 q7 zkX
          go_wp2_with fail
          refine HE3.out.mono ?_
          rintro e8 w8 ⟨rfl, hb8⟩
          have B8 := zbt B7 hb8
          replace kX := kX.below_ hb8 kX.lt
          clear HE3 hb8
          cases eq2 with
          | false =>
           have HE : Hid (agW s = false) := by
            show _ = _
            refine Bool.eq_false_iff.2 fun e => ?_
            have hag := agW_ok.1 e
            refine of_decide_eq_false HEQ2.out ((desc_sorted HTA.out).2 ?_)
            rw [← HT.out]
            exact ⟨hag.2.2.2.2.2.1, hag.2.2.2.2.2.2.1⟩
           go_wp2_with fail
           go_ret
           exact ⟨by rw [HE.out]; rfl, B8⟩
          | true =>
           have zkX := kX.lt
           obtain ⟨q0, q1, q2, q3, q4, q5, q6, q7, q8, q9, q10⟩ := zc11 kX
           go_wp2_with fail
           refine (waiting_any ⟨a0, c0, a1, c1, a2, c2, a3, c3, a4, c4, a5, c5, a6, c6, a7, c7⟩ s w8 (HS.out.r2.ext B8) (HS.out.r3.ext B8) H2.out HWF.out f3).mono ?_
           rintro e9 w9 ⟨hb9, ⟨hw, M, n, rfl, hM, hMl⟩ | ⟨hw, rfl⟩⟩
           ·have HMM := Lib.hid hM
            have HWK := Lib.hid hw
            have B9 := zbt B8 hb9
            clear hM hw q0 q1 q2 q3 q4 q5 q6 q7 q8 q9 q10 zkX
            replace kX := kX.below_ hb9 kX.lt
            clear hb9
            go_wp2_with (at_range; refine wpList_rangeT wtT _ rfl _ rfl _ rfl M n _ rfl HMM.out ?_; intro w10 cnt0 hR10 g10 s10)
            go_frame
            have B10 : Below w.heap.size w w10 := B9.trans (((Below.refl _ w9).grown g10 (Nat.le_refl _) (fun j hj => by cases hj)).mono B9.size)
            replace kX := kX.below_ ((Below.refl _ w9).grown g10 (Nat.le_refl _) (fun j hj => by cases hj)) kX.lt
            obtain ⟨r0, hr0⟩ : ∃ r, w9.heap.size = r := ⟨_, rfl⟩
            rw [hr0] at hR10
            rw [hr0]
            have HR10 := Lib.hid hR10
            have HRLT : r0 ≤ w10.heap.size := by omega
            have HRM : M < r0 := by have := HMM.out.lt; omega
            have HSL : Hid (∀ p v, lkV (wtV s) p = some v → 0 ≤ v.2 ∧ v.2 < s.sl.refs.length) := fun p v hv => wt_range H3.out (by have := HG1.out; simp at this; omega) (mtW_iff.1 HM1.out) (mtW_iff.1 HM2.out) ((wtV_lk s HWK.out).1 hv)
            have hBr : w.heap.size ≤ r0 := by rw [← hr0]; exact B9.size
            clear hR10 hr0 s10 g10
            go_loopw [9] (fun o wr => ∃ (ok : Bool) (cnt : Nat) (left : Int → Bool), o = .bool ok ∧ Hid (RngT wtT wr M r0 n (lkV (wtV s)) left cnt) ∧ Hid (ok = true ↔ ∀ p v, lkV (wtV s) p = some v → left p = false → 0 < refT s.sl v.2.toNat) ∧ Hid (Blk wr w.heap.size 35 (zkx s a0 c0 a1 c1 a2 c2 a3 c3 a4 c4 a5 c5 a6 c6 a7 c7).toArray) ∧ Below w.heap.size w wr) (fun _ wr => wr.rangeLeft M r0)
            case atStart => exact ⟨true, cnt0, fun _ => true, rfl, HR10.out, (show _ ↔ _ from ⟨fun _ _ _ _ h => (by cases h), fun _ => rfl⟩), kX, B10⟩
            case round =>
             clear HR10 kX HMM HRLT
             obtain ⟨ok, cnt, left, rfl, HR, HO, HK, hb⟩ := hrel
             go_upto_region 23 with (at_next; refine wpList_nextWt _ rfl _ rfl M r0 n _ left cnt rfl HR.out (fun hd => ?_) (fun p v0 v1 w5b cnt2 hk hl hR2 hlt2 hg2 hs2 hen => ?_))
             ·go_wp2_with fail
              go_ret
              refine ⟨?_, hb⟩
              have e := ag_end (ok := ok) (left := left) ⟨by have := HG1.out; simp at this; omega, by have := HG2.out; simpa using this, by have := HG3.out; simp at this; omega⟩ HM1.out HM2.out (by rw [HBL.out]; exact (of_decide_eq_true HEQV.out).symm) (by have := HG4.out; simp at this; omega) (by rw [HT.out]; exact of_decide_eq_true HEQ2.out) HWK.out HO.out hd desc_sorted
              rw [e]
              rfl
             ·have hvr := HSL.out _ _ hk
              dsimp only at hvr
              obtain ⟨q, rfl⟩ : ∃ q : Nat, v1 = q := ⟨v1.toNat, by omega⟩
              have hq : q < s.sl.refs.length := by omega
              have hb5 : Below w.heap.size w w5b := hb.grown hg2 hb.size (fun j hj => by cases hj; exact hBr)
              obtain ⟨b, off, x, rfl, hbl, hx, hc⟩ := (HS.out.r0.ext hb5).at_ hq
              have HX : Hid (refT s.sl q = x) := by show _ = _; unfold refT; rw [List.getD_eq_getElem?_getD, hx]; rfl
              have cf5 : w5b.cell? ⟨b, off + q, none⟩ = some (.int .i64 x) := by
               have := hc 0 _ rfl
               rwa [show off + q * intE.sz + 0 = off + q from by show off + q * 1 + 0 = _; omega] at this
              have h08 := B8.size
              have kS5 : Blk w5b w.heap.size _ _ := (hg2.block _ HK.out.lt (by simp; omega)).trans HK.out
              obtain ⟨V6, hV6⟩ : ∃ V6, w5b.alloc (.cells #[.bool v0, .int .i64 (q : Nat)] 128) = V6 := ⟨_, rfl⟩
              have kJ := za hV6
              have B6 := zab hV6
              have G6 : w5b.grownBy V6 none := by rw [← hV6]; exact World.grownBy_alloc _ _ _
              have zJ := kJ.lt
              obtain ⟨-, j1⟩ := zc2 kJ
              have kS6 := kS5.below_ B6 (Blk.lt kS5)
              have zS6 := Blk.lt kS6
              have y1 : V6.cell? ⟨w.heap.size, 1, none⟩ = some (.slice (some ⟨b, off, none⟩) s.sl.refs.length c0) := by simpa using Blk.cell_ kS6 1
              have cf6 := cell_keep B6 cf5 hbl
              have zb : b < V6.heap.size := Nat.lt_of_lt_of_le hbl B6.size
              have hR6 := hR2.kept G6 (by simp) (by simp)
              have HR6 := Lib.hid hR6
              have q3 : (q : Int) < s.sl.refs.length := by omega
              have q4 : ((q : Int)).toNat = q := by omega
              have HO6 : Hid ((ok && decide (0 < x)) = true ↔ ∀ p' v', lkV (wtV s) p' = some v' → (left p' && !decide (p' = p)) = false → 0 < refT s.sl v'.2.toNat) := by
               have := all_step (f := fun n => refT s.sl n.toNat) HO.out hk
               dsimp only at this
               rw [q4, HX.out] at this
               exact this
              have HLT : wr.rangeLeft M r0 = cnt := HR.out.left_eq
              have HLE : Hid (V6.rangeLeft M r0 = cnt2 ∧ wr.rangeLeft M r0 = cnt) := ⟨HR6.out.left_eq, HR.out.left_eq⟩
              have hb6 := zbt hb5 B6
              clear HLT hR6 hR2 HR HO HK hk hl hx hc cf5 kS5 G6 hs2 hg2 hvr h08
              go_upto_region 24 with fail
              (try rw [hV6])
              clear hV6 hen
              cases ok with
              | false =>
               go_wp2_with fail
               go_roundw
               case rel => exact ⟨false, cnt2, _, rfl, HR6.out, HO6.out, kS6, hb6⟩
               case measure => rw [HLE.out.1, HLE.out.2]; exact hlt2
              | true =>
               go_wp2_with fail
               go_roundw
               case rel =>
                refine ⟨decide (0 < x), cnt2, _, by simp, HR6.out, ?_, kS6, hb6⟩
                have := HO6.out
                rw [Bool.true_and] at this
                exact this
               case measure => rw [HLE.out.1, HLE.out.2]; exact hlt2
           ·have HB : Hid (agW s = false) := by
             show _ = _
             refine Bool.eq_false_iff.2 fun e => ?_
             have hag := agW_ok.1 e
             have h3 : wtok s = true := by
              unfold wtok
              rw [decide_eq_true hag.2.2.2.2.2.2.2.1.1, Bool.true_and, List.all_eq_true]
              intro x hx
              simpa using hag.2.2.2.2.2.2.2.1.2 x hx
             rw [h3] at hw
             cases hw
            have B9 := zbt B8 hb9
            clear hw q0 q1 q2 q3 q4 q5 q6 q7 q8 q9 q10 zkX kX hb9
            have hrn := fun (w : World) => run_range_nilMap (P := Tryz.prog) w 124 3 128 Tryz.underlying124
            have hnx := fun (ty : TypeId) (a b : Nat) (s : Array Nat) => run_next_nilMap (P := Tryz.prog) w9 ty a b s
            go_wp2_with fail
            go_loopw [9] (fun o wr => o = .bool false ∧ wr = w9.alloc (.mapIter none 0 #[] 0)) (fun _ _ => 0)
            case atStart => exact ⟨rfl, rfl⟩
            case round =>
             obtain ⟨rfl, rfl⟩ := hrel
             go_wp2_with fail
             go_ret
             exact ⟨by rw [HB.out]; rfl, B9.alloc B9.size _⟩
end Go.Proofs.YthijbipidbjpfaaGreatDoor
