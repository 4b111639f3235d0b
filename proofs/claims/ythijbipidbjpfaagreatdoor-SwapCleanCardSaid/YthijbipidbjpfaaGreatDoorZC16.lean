import Derived.Test.YthijbipidbjpfaaGreatDoorZC15
import Derived.Test.YthijbipidbjpfaaGreatDoorZC00
import Derived.Test.YthijbipidbjpfaaGreatDoorZC04
import Derived.Test.YthijbipidbjpfaaGreatDoorZC06
import Derived.Test.YthijbipidbjpfaaGreatDoorZC03
import Derived.Test.YthijbipidbjpfaaGreatDoorZC01
import Derived.Test.YthijbipidbjpfaaGreatDoorZC11
set_option linter.unusedSimpArgs false
set_option linter.unusedVariables false
set_option maxRecDepth 100000
set_option maxHeartbeats 8000000
namespace Go.Proofs.YthijbipidbjpfaaGreatDoor
open Go.RowKit Go.Maps
theorem jvs_snoc {js : List Jb} {k : Nat} {j : Jb} (b : Bool) (hj : js[k]? = some j) : jvs (js.take (k + 1)) b = jvs (js.take k) b ++ if j.wr = b then [(j.slot, j.frame)] else [] := by
 rw [List.take_add_one, hj, jvs_app]
 congr 1
 cases h : j.wr <;> cases b <;> simp [jvs, h]
theorem vvs_snoc {vs : List Wr} {n : Nat} {v : Wr} (hv : vs[n]? = some v) : vvs (vs.take (n + 1)) = vvs (vs.take n) ++ [(v.1, v.2.1)] := by
 rw [List.take_add_one, hv, vvs_app]
 rfl
theorem mt_skip {js : List Jb} {b : Bool} {vs : List Wr} {k n : Nat} {j : Jb} (h : jvs (js.take k) b = vvs (vs.take n)) (hj : js[k]? = some j) (hw : j.wr ≠ b) : jvs (js.take (k + 1)) b = vvs (vs.take n) := by
 rw [jvs_snoc b hj, if_neg hw, List.append_nil, h]
theorem mt_same {js : List Jb} {vs : List Wr} {k n : Nat} {j : Jb} {v : Wr} (h : jvs (js.take k) j.wr = vvs (vs.take n)) (hj : js[k]? = some j) (hv : vs[n]? = some v) (he : decide ((j.slot, j.frame) = (v.1, v.2.1)) = true) : jvs (js.take (k + 1)) j.wr = vvs (vs.take (n + 1)) := by
 rw [jvs_snoc _ hj, if_pos rfl, vvs_snoc hv, h, of_decide_eq_true he]
theorem jvs_split (js : List Jb) (b : Bool) (k : Nat) : jvs js b = jvs (js.take k) b ++ jvs (js.drop k) b := by
 rw [← jvs_app, List.take_append_drop]
theorem vvs_len (vs : List Wr) : (vvs vs).length = vs.length := by unfold vvs; simp
theorem mt_at {js : List Jb} {vs : List Wr} {k n : Nat} {j : Jb} (h : jvs (js.take k) j.wr = vvs (vs.take n)) (hn : n ≤ vs.length) (hj : js[k]? = some j) : (jvs js j.wr)[n]? = some (j.slot, j.frame) := by
 rw [jvs_split js j.wr (k + 1), jvs_snoc _ hj, if_pos rfl, h, List.append_assoc, List.getElem?_append_right (by rw [vvs_len, List.length_take]; omega)]
 rw [vvs_len, List.length_take, Nat.min_eq_left hn]
 simp
theorem mt_diff {js : List Jb} {vs : List Wr} {k n : Nat} {j : Jb} {v : Wr} (h : jvs (js.take k) j.wr = vvs (vs.take n)) (hj : js[k]? = some j) (hv : vs[n]? = some v) (he : decide ((j.slot, j.frame) = (v.1, v.2.1)) = false) : mtW js j.wr vs = false := by
 obtain ⟨hn, _⟩ := List.getElem?_eq_some_iff.1 hv
 refine Bool.eq_false_iff.2 fun e => ?_
 have h1 := mt_at h (by omega) hj
 rw [mtW_iff.1 e] at h1
 unfold vvs at h1
 rw [List.getElem?_map, hv] at h1
 injection h1 with h1
 simp only [decide_eq_false_iff_not] at he
 exact he h1.symm
theorem mt_over {js : List Jb} {vs : List Wr} {k n : Nat} {j : Jb} (h : jvs (js.take k) j.wr = vvs (vs.take n)) (hj : js[k]? = some j) (hn : vs.length ≤ n) : mtW js j.wr vs = false := by
 refine Bool.eq_false_iff.2 fun e => ?_
 have h1 := congrArg List.length (jvs_split js j.wr (k + 1))
 rw [jvs_snoc _ hj, if_pos rfl, h, mtW_iff.1 e] at h1
 simp [vvs_len] at h1
 omega
theorem mt_end {js : List Jb} {b : Bool} {vs : List Wr} {n q : Nat} (h : jvs js b = vvs (vs.take n)) (hq : vs.length = q) (hn : n ≤ q) : mtW js b vs = ((n : Int) == (q : Int)) := by
 by_cases e : n = q
 ·subst e
  rw [mtW_iff.2 (by rw [h, List.take_of_length_le (by omega)])]
  simp
 ·have hne : ((n : Int) == (q : Int)) = false := by simp; omega
  rw [hne]
  refine Bool.eq_false_iff.2 fun e2 => ?_
  have h1 := congrArg List.length (mtW_iff.1 e2)
  rw [h, vvs_len, vvs_len, List.length_take] at h1
  omega
theorem agW_any (j : Jb) (v : Wr) (w : World) : Calls Tryz.prog 123 #[jbV j, .agg #[.int .i64 v.1, .int .i64 v.2.1, .int .i64 v.2.2]] w fun e w' => e = .returned (.bool (decide ((j.slot, j.frame) = (v.1, v.2.1)))) ∧ Below w.heap.size w w' := by
 obtain ⟨jw, js, jf, ⟨c0, c1_, c2_, c3, c4, c5_, c6, c7⟩⟩ := j
 obtain ⟨v0, v1, v2⟩ := v
 show Calls _ _ #[.agg (zkj jw js jf c0 c1_ c2_ c3 c4 c5_ c6 c7).toArray, .agg #[.int .i64 v0, .int .i64 v1, .int .i64 v2]] _ _
 have he : decide ((js, jf) = (v0, v1)) = (decide (js = v0) && decide (jf = v1)) := by simp
 dsimp only
 rw [he]
 by_cases h1 : js = v0
 ·subst h1
  by_cases h2 : jf = v1
  ·subst h2
   rw [show (decide (js = js) && decide (jf = jf)) = true by simp]
   go_enter Tryz.func123, Tryz.ntmps123
   go_wp2_with fail
   go_ret
   exact ⟨by simp, zbl⟩
  ·rw [show (decide (js = js) && decide (jf = v1)) = false by simp [h2]]
   have h2b : (jf == v1) = false := by simpa using h2
   go_enter Tryz.func123, Tryz.ntmps123
   go_wp2_with fail
   go_ret
   exact ⟨by simp, zbl⟩
 ·rw [show (decide (js = v0) && decide (jf = v1)) = false by simp [h1]]
  have h1b : (js == v0) = false := by simpa using h1
  go_enter Tryz.func123, Tryz.ntmps123
  go_wp2_with fail
  go_ret
  exact ⟨by simp, zbl⟩
theorem agR_any (j : Jb) (v : Wr) (w : World) : Calls Tryz.prog 125 #[jbV j, .agg #[.int .i64 v.1, .int .i64 v.2.1, .int .i64 v.2.2]] w fun e w' => e = .returned (.bool (decide ((j.slot, j.frame) = (v.1, v.2.1)))) ∧ Below w.heap.size w w' := by
 obtain ⟨jw, js, jf, ⟨c0, c1_, c2_, c3, c4, c5_, c6, c7⟩⟩ := j
 obtain ⟨v0, v1, v2⟩ := v
 show Calls _ _ #[.agg (zkj jw js jf c0 c1_ c2_ c3 c4 c5_ c6 c7).toArray, .agg #[.int .i64 v0, .int .i64 v1, .int .i64 v2]] _ _
 have he : decide ((js, jf) = (v0, v1)) = (decide (js = v0) && decide (jf = v1)) := by simp
 dsimp only
 rw [he]
 by_cases h1 : js = v0
 ·subst h1
  by_cases h2 : jf = v1
  ·subst h2
   rw [show (decide (js = js) && decide (jf = jf)) = true by simp]
   go_enter Tryz.func125, Tryz.ntmps125
   go_wp2_with fail
   go_ret
   exact ⟨by simp, zbl⟩
  ·rw [show (decide (js = js) && decide (jf = v1)) = false by simp [h2]]
   have h2b : (jf == v1) = false := by simpa using h2
   go_enter Tryz.func125, Tryz.ntmps125
   go_wp2_with fail
   go_ret
   exact ⟨by simp, zbl⟩
 ·rw [show (decide (js = v0) && decide (jf = v1)) = false by simp [h1]]
  have h1b : (js == v0) = false := by simpa using h1
  go_enter Tryz.func125, Tryz.ntmps125
  go_wp2_with fail
  go_ret
  exact ⟨by simp, zbl⟩
theorem matchW_any (A B : Option Addr) (c d : Nat) (js : List Jb) (bb : Bool) (vs : List Wr) (w : World) (ha : SR jbE w A js) (hv : SR wrE w B vs) (la : js.length ≤ 1000) (lv : vs.length ≤ 1000) :
  Calls Tryz.prog 122 #[.slice A js.length c, .bool bb, .slice B vs.length d, .func (.func 123) #[] #[]] w fun e w' => e = .returned (.bool (mtW js bb vs)) ∧ Below w.heap.size w w' := by
 have HA := Lib.hid ha
 have HV := Lib.hid hv
 obtain ⟨m, hm⟩ : ∃ m, js.length = m := ⟨_, rfl⟩
 obtain ⟨q, hq⟩ : ∃ q, vs.length = q := ⟨_, rfl⟩
 obtain ⟨R, hR⟩ : ∃ R, mtW js bb vs = R := ⟨_, rfl⟩
 rw [hm, hq, hR]
 have la' : m ≤ 1000 := by omega
 have lv' : q ≤ 1000 := by omega
 have HM := Lib.hid hm
 have HQ := Lib.hid hq
 have HR := Lib.hid hR
 clear ha hv hm hq hR la lv
 go_enter Tryz.func122, Tryz.ntmps122
 go_wp2_with fail
 go_loopw [14, 9] (fun i s wr => ∃ k n : Nat, k ≤ m ∧ n ≤ q ∧ i = .int .i64 k ∧ s = .int .i64 n ∧ Hid (jvs (js.take k) bb = vvs (vs.take n)) ∧ Below w.heap.size w wr) (fun i _ _ => m - (intOf i).toNat)
 case atStart => exact ⟨0, 0, by omega, by omega, rfl, rfl, (by show _ = _; rfl), Below.refl _ _⟩
 case round =>
  obtain ⟨k, n, hk, hn, rfl, rfl, HP, hb⟩ := hrel
  by_cases hlt : k < m
  ·have i1 : (k : Int) < m := by omega
   obtain ⟨b, off, y, rfl, hbl, hx, hc⟩ := (HA.out.ext hb).at_ (k := k) (by rw [HM.out]; exact hlt)
   have HX := Lib.hid hx
   clear hx
   obtain ⟨jw, js_, jf, ⟨c0, c1_, c2_, c3, c4, c5_, c6, c7⟩⟩ := y
   have e0 : wr.cell? ⟨b, off + k * 11, none⟩ = some (.bool jw) := hc 0 _ rfl
   have e1 : wr.cell? ⟨b, off + k * 11 + 1, none⟩ = some (.int .i64 js_) := hc 1 _ rfl
   have e2 : wr.cell? ⟨b, off + k * 11 + 2, none⟩ = some (.int .i64 jf) := hc 2 _ rfl
   have e3 : wr.cell? ⟨b, off + k * 11 + 3, none⟩ = some (.int .u64 c0) := hc 3 _ rfl
   have e4 : wr.cell? ⟨b, off + k * 11 + 4, none⟩ = some (.int .u64 c1_) := hc 4 _ rfl
   have e5 : wr.cell? ⟨b, off + k * 11 + 5, none⟩ = some (.int .u64 c2_) := hc 5 _ rfl
   have e6 : wr.cell? ⟨b, off + k * 11 + 6, none⟩ = some (.int .u64 c3) := hc 6 _ rfl
   have e7 : wr.cell? ⟨b, off + k * 11 + 7, none⟩ = some (.int .u64 c4) := hc 7 _ rfl
   have e8 : wr.cell? ⟨b, off + k * 11 + 8, none⟩ = some (.int .u64 c5_) := hc 8 _ rfl
   have e9 : wr.cell? ⟨b, off + k * 11 + 9, none⟩ = some (.int .u64 c6) := hc 9 _ rfl
   have e10 : wr.cell? ⟨b, off + k * 11 + 10, none⟩ = some (.int .u64 c7) := hc 10 _ rfl
   obtain ⟨V6, hV6⟩ : ∃ V6, wr.alloc (.cells (zkj jw js_ jf c0 c1_ c2_ c3 c4 c5_ c6 c7).toArray 115) = V6 := ⟨_, rfl⟩
   have kJ := za hV6
   have B6 := zab hV6
   have zJ := kJ.lt
   obtain ⟨j0, j1, j2, j3, j4, j5, j6, j7, j8, j9, j10⟩ := zc11 kJ
   cases hwb : (jw != bb)
   ·have hwe : jw = bb := by simpa using hwb
    subst hwe
    by_cases hnq : n < q
    ·have hg : decide ((n : Int) ≥ (q : Int)) = false := by simp; omega
     have n1 : (n : Int) < q := by omega
     obtain ⟨b2, off2, v, rfl, hbl2, hx2, hc2⟩ := (HV.out.ext hb).at_ (k := n) (by rw [HQ.out]; exact hnq)
     obtain ⟨v0, v1, v2⟩ := v
     have HX2 := Lib.hid hx2
     clear hx2
     have zY : b2 < V6.heap.size := Nat.lt_of_lt_of_le hbl2 B6.size
     have y0 : V6.cell? ⟨b2, off2 + n * 3, none⟩ = some (.int .i64 v0) := cell_keep B6 (hc2 0 _ rfl) hbl2
     have y1 : V6.cell? ⟨b2, off2 + n * 3 + 1, none⟩ = some (.int .i64 v1) := cell_keep B6 (hc2 1 _ rfl) hbl2
     have y2 : V6.cell? ⟨b2, off2 + n * 3 + 2, none⟩ = some (.int .i64 v2) := cell_keep B6 (hc2 2 _ rfl) hbl2
     have hS : V6.drew.cell? ⟨wr.heap.size, 0, none⟩ = some (.bool jw) ∧ V6.drew.cell? ⟨wr.heap.size, 1, none⟩ = some (.int .i64 js_) ∧ V6.drew.cell? ⟨wr.heap.size, 2, none⟩ = some (.int .i64 jf) ∧ V6.drew.cell? ⟨wr.heap.size, 3, none⟩ = some (.int .u64 c0) ∧ V6.drew.cell? ⟨wr.heap.size, 4, none⟩ = some (.int .u64 c1_) ∧ V6.drew.cell? ⟨wr.heap.size, 5, none⟩ = some (.int .u64 c2_) ∧ V6.drew.cell? ⟨wr.heap.size, 6, none⟩ = some (.int .u64 c3) ∧ V6.drew.cell? ⟨wr.heap.size, 7, none⟩ = some (.int .u64 c4) ∧ V6.drew.cell? ⟨wr.heap.size, 8, none⟩ = some (.int .u64 c5_) ∧ V6.drew.cell? ⟨wr.heap.size, 9, none⟩ = some (.int .u64 c6) ∧ V6.drew.cell? ⟨wr.heap.size, 10, none⟩ = some (.int .u64 c7) ∧ V6.drew.cell? ⟨b2, off2 + n * 3, none⟩ = some (.int .i64 v0) ∧ V6.drew.cell? ⟨b2, off2 + n * 3 + 1, none⟩ = some (.int .i64 v1) ∧ V6.drew.cell? ⟨b2, off2 + n * 3 + 2, none⟩ = some (.int .i64 v2) := ⟨j0, j1, j2, j3, j4, j5, j6, j7, j8, j9, j10, y0, y1, y2⟩
     obtain ⟨vv, hvv⟩ : ∃ b, decide ((js_, jf) = (v0, v1)) = b := ⟨_, rfl⟩
     have HVV : Hid (decide ((js_, jf) = (v0, v1)) = vv) := hvv
     cases vv
     ·have HE : Hid (R = false) := by show _ = _; rw [← HR.out]; exact mt_diff HP.out HX.out HX2.out hvv
      clear hvv
      go_wp2_with fail
      (try rw [hV6])
      clear hV6 e0 e1 e2 e3 e4 e5 e6 e7 e8 e9 e10 hc hc2
      refine wp_region_held_drew (S := fun V => V.cell? ⟨wr.heap.size, 0, none⟩ = some (.bool jw) ∧ V.cell? ⟨wr.heap.size, 1, none⟩ = some (.int .i64 js_) ∧ V.cell? ⟨wr.heap.size, 2, none⟩ = some (.int .i64 jf) ∧ V.cell? ⟨wr.heap.size, 3, none⟩ = some (.int .u64 c0) ∧ V.cell? ⟨wr.heap.size, 4, none⟩ = some (.int .u64 c1_) ∧ V.cell? ⟨wr.heap.size, 5, none⟩ = some (.int .u64 c2_) ∧ V.cell? ⟨wr.heap.size, 6, none⟩ = some (.int .u64 c3) ∧ V.cell? ⟨wr.heap.size, 7, none⟩ = some (.int .u64 c4) ∧ V.cell? ⟨wr.heap.size, 8, none⟩ = some (.int .u64 c5_) ∧ V.cell? ⟨wr.heap.size, 9, none⟩ = some (.int .u64 c6) ∧ V.cell? ⟨wr.heap.size, 10, none⟩ = some (.int .u64 c7) ∧ V.cell? ⟨b2, off2 + n * 3, none⟩ = some (.int .i64 v0) ∧ V.cell? ⟨b2, off2 + n * 3 + 1, none⟩ = some (.int .i64 v1) ∧ V.cell? ⟨b2, off2 + n * 3 + 2, none⟩ = some (.int .i64 v2)) (by kernel_rfl) ?_ (fun hHeld => ?_)
      ·exact hS
      refine zht 0 ?_
      refine zht 1 ?_
      refine zht 2 ?_
      refine zhV 3 (.bool false) (fun w hSw => ?_) ?_
      ·(try dsimp only at hSw)
       go_simp
       first | done | (simp; omega)
      refine zht 4 ?_
      refine zht 5 ?_
      refine zht 6 ?_
      refine zht 7 ?_
      refine zht 8 ?_
      refine zht 9 ?_
      refine zht 10 ?_
      refine zhr 11 (fun K hK => ?_)
      go_simp
      refine (agW_any ⟨jw, js_, jf, ⟨c0, c1_, c2_, c3, c4, c5_, c6, c7⟩⟩ (v0, v1, v2) V6.drew).mono ?_
      rintro e7 w7 ⟨rfl, hb7⟩
      have b7 : Below V6.heap.size V6 w7 := ((Below.refl _ _).drew).trans hb7
      rw [HVV.out]
      have hS7 : w7.cell? ⟨wr.heap.size, 0, none⟩ = some (.bool jw) ∧ w7.cell? ⟨wr.heap.size, 1, none⟩ = some (.int .i64 js_) ∧ w7.cell? ⟨wr.heap.size, 2, none⟩ = some (.int .i64 jf) ∧ w7.cell? ⟨wr.heap.size, 3, none⟩ = some (.int .u64 c0) ∧ w7.cell? ⟨wr.heap.size, 4, none⟩ = some (.int .u64 c1_) ∧ w7.cell? ⟨wr.heap.size, 5, none⟩ = some (.int .u64 c2_) ∧ w7.cell? ⟨wr.heap.size, 6, none⟩ = some (.int .u64 c3) ∧ w7.cell? ⟨wr.heap.size, 7, none⟩ = some (.int .u64 c4) ∧ w7.cell? ⟨wr.heap.size, 8, none⟩ = some (.int .u64 c5_) ∧ w7.cell? ⟨wr.heap.size, 9, none⟩ = some (.int .u64 c6) ∧ w7.cell? ⟨wr.heap.size, 10, none⟩ = some (.int .u64 c7) ∧ w7.cell? ⟨b2, off2 + n * 3, none⟩ = some (.int .i64 v0) ∧ w7.cell? ⟨b2, off2 + n * 3 + 1, none⟩ = some (.int .i64 v1) ∧ w7.cell? ⟨b2, off2 + n * 3 + 2, none⟩ = some (.int .i64 v2) := ⟨cell_keep b7 j0 zJ, cell_keep b7 j1 zJ, cell_keep b7 j2 zJ, cell_keep b7 j3 zJ, cell_keep b7 j4 zJ, cell_keep b7 j5 zJ, cell_keep b7 j6 zJ, cell_keep b7 j7 zJ, cell_keep b7 j8 zJ, cell_keep b7 j9 zJ, cell_keep b7 j10 zJ, cell_keep b7 y0 zY, cell_keep b7 y1 zY, cell_keep b7 y2 zY⟩
      go_wp2_with fail
      refine hK.out _ _ (by exact hS7) fun hHeld => ?_
      clear hK K
      (try simp only [Act.put, zy0, zy1, zy2])
      refine zht 12 ?_
      refine zht 13 ?_
      refine wpAnyH_done (by kernel_rfl) ?_ _
      go_wp2_with fail
      go_ret
      refine ⟨?_, hb.trans ((B6.trans (b7.mono B6.size)).mono hb.size)⟩
      rw [HE.out]
      rfl
     ·have HN : Hid (jvs (js.take (k + 1)) jw = vvs (vs.take (n + 1))) := mt_same HP.out HX.out HX2.out hvv
      clear hvv
      go_wp2_with fail
      (try rw [hV6])
      clear hV6 e0 e1 e2 e3 e4 e5 e6 e7 e8 e9 e10 hc hc2
      refine wp_region_held_drew (S := fun V => V.cell? ⟨wr.heap.size, 0, none⟩ = some (.bool jw) ∧ V.cell? ⟨wr.heap.size, 1, none⟩ = some (.int .i64 js_) ∧ V.cell? ⟨wr.heap.size, 2, none⟩ = some (.int .i64 jf) ∧ V.cell? ⟨wr.heap.size, 3, none⟩ = some (.int .u64 c0) ∧ V.cell? ⟨wr.heap.size, 4, none⟩ = some (.int .u64 c1_) ∧ V.cell? ⟨wr.heap.size, 5, none⟩ = some (.int .u64 c2_) ∧ V.cell? ⟨wr.heap.size, 6, none⟩ = some (.int .u64 c3) ∧ V.cell? ⟨wr.heap.size, 7, none⟩ = some (.int .u64 c4) ∧ V.cell? ⟨wr.heap.size, 8, none⟩ = some (.int .u64 c5_) ∧ V.cell? ⟨wr.heap.size, 9, none⟩ = some (.int .u64 c6) ∧ V.cell? ⟨wr.heap.size, 10, none⟩ = some (.int .u64 c7) ∧ V.cell? ⟨b2, off2 + n * 3, none⟩ = some (.int .i64 v0) ∧ V.cell? ⟨b2, off2 + n * 3 + 1, none⟩ = some (.int .i64 v1) ∧ V.cell? ⟨b2, off2 + n * 3 + 2, none⟩ = some (.int .i64 v2)) (by kernel_rfl) ?_ (fun hHeld => ?_)
      ·exact hS
      refine zht 0 ?_
      refine zht 1 ?_
      refine zht 2 ?_
      refine zhV 3 (.bool false) (fun w hSw => ?_) ?_
      ·(try dsimp only at hSw)
       go_simp
       first | done | (simp; omega)
      refine zht 4 ?_
      refine zht 5 ?_
      refine zht 6 ?_
      refine zht 7 ?_
      refine zht 8 ?_
      refine zht 9 ?_
      refine zht 10 ?_
      refine zhr 11 (fun K hK => ?_)
      go_simp
      refine (agW_any ⟨jw, js_, jf, ⟨c0, c1_, c2_, c3, c4, c5_, c6, c7⟩⟩ (v0, v1, v2) V6.drew).mono ?_
      rintro e7 w7 ⟨rfl, hb7⟩
      have b7 : Below V6.heap.size V6 w7 := ((Below.refl _ _).drew).trans hb7
      rw [HVV.out]
      have hS7 : w7.cell? ⟨wr.heap.size, 0, none⟩ = some (.bool jw) ∧ w7.cell? ⟨wr.heap.size, 1, none⟩ = some (.int .i64 js_) ∧ w7.cell? ⟨wr.heap.size, 2, none⟩ = some (.int .i64 jf) ∧ w7.cell? ⟨wr.heap.size, 3, none⟩ = some (.int .u64 c0) ∧ w7.cell? ⟨wr.heap.size, 4, none⟩ = some (.int .u64 c1_) ∧ w7.cell? ⟨wr.heap.size, 5, none⟩ = some (.int .u64 c2_) ∧ w7.cell? ⟨wr.heap.size, 6, none⟩ = some (.int .u64 c3) ∧ w7.cell? ⟨wr.heap.size, 7, none⟩ = some (.int .u64 c4) ∧ w7.cell? ⟨wr.heap.size, 8, none⟩ = some (.int .u64 c5_) ∧ w7.cell? ⟨wr.heap.size, 9, none⟩ = some (.int .u64 c6) ∧ w7.cell? ⟨wr.heap.size, 10, none⟩ = some (.int .u64 c7) ∧ w7.cell? ⟨b2, off2 + n * 3, none⟩ = some (.int .i64 v0) ∧ w7.cell? ⟨b2, off2 + n * 3 + 1, none⟩ = some (.int .i64 v1) ∧ w7.cell? ⟨b2, off2 + n * 3 + 2, none⟩ = some (.int .i64 v2) := ⟨cell_keep b7 j0 zJ, cell_keep b7 j1 zJ, cell_keep b7 j2 zJ, cell_keep b7 j3 zJ, cell_keep b7 j4 zJ, cell_keep b7 j5 zJ, cell_keep b7 j6 zJ, cell_keep b7 j7 zJ, cell_keep b7 j8 zJ, cell_keep b7 j9 zJ, cell_keep b7 j10 zJ, cell_keep b7 y0 zY, cell_keep b7 y1 zY, cell_keep b7 y2 zY⟩
      go_wp2_with fail
      refine hK.out _ _ (by exact hS7) fun hHeld => ?_
      clear hK K
      (try simp only [Act.put, zy0, zy1, zy2])
      refine zht 12 ?_
      refine zht 13 ?_
      refine wpAnyH_done (by kernel_rfl) ?_ _
      go_wp2_with fail
      go_roundw
      case rel => exact ⟨k + 1, n + 1, by omega, by omega, by go_num, by go_num, HN, hb.trans ((B6.trans (b7.mono B6.size)).mono hb.size)⟩
      case measure => simp [intOf]; omega
    ·have hg : decide ((n : Int) ≥ (q : Int)) = true := by simp; omega
     have HE : Hid (R = false) := by show _ = _; rw [← HR.out]; exact mt_over HP.out HX.out (by rw [HQ.out]; omega)
     go_wp2_with fail
     (try rw [hV6])
     clear hV6 e0 e1 e2 e3 e4 e5 e6 e7 e8 e9 e10 hc
     refine wp_region_held_drew (S := fun _ => True) (by kernel_rfl) ?_ (fun hHeld => ?_)
     ·trivial
     refine zht 0 ?_
     refine zht 1 ?_
     refine zht 2 ?_
     refine zhV 3 (.bool true) (fun w hSw => ?_) ?_
     ·(try dsimp only at hSw)
      go_simp
      first | done | rfl | omega | (trace_state; fail)
     refine zht 4 ?_
     refine zhu 5 ?_
     refine zhu 6 ?_
     refine zhu 7 ?_
     refine zhu 8 ?_
     refine zhu 9 ?_
     refine zhu 10 ?_
     refine zhu 11 ?_
     refine zhu 12 ?_
     refine zht 13 ?_
     refine wpAnyH_done (by kernel_rfl) ?_ _
     go_wp2_with fail
     go_ret
     refine ⟨?_, hb.trans ((B6.drew).mono hb.size)⟩
     rw [HE.out]
     rfl
   ·have HN : Hid (jvs (js.take (k + 1)) bb = vvs (vs.take n)) := mt_skip HP.out HX.out (by simpa using hwb)
    have hwb0 : jw ≠ bb := by simpa using hwb
    clear hwb
    cases jw <;> cases bb <;> first
     | exact absurd rfl hwb0
     | (clear hwb0
        go_wp2_with fail
        (try rw [hV6])
        go_wp2_with fail
        go_roundw
        case rel => exact ⟨k + 1, n, by omega, by omega, by go_num, by go_num, HN, hb.trans (B6.mono hb.size)⟩
        case measure => simp [intOf]; omega)
  ·obtain rfl : k = m := by omega
   have hR2 : R = ((n : Int) == (q : Int)) := by
    rw [← HR.out]
    exact mt_end (by rw [← HM.out] at HP; simpa using HP.out) HQ.out hn
   subst hR2
   go_wp2_with fail
   go_ret
   exact ⟨rfl, hb⟩
theorem matchR_any (A B : Option Addr) (c d : Nat) (js : List Jb) (bb : Bool) (vs : List Wr) (w : World) (ha : SR jbE w A js) (hv : SR rdE w B vs) (la : js.length ≤ 1000) (lv : vs.length ≤ 1000) :
  Calls Tryz.prog 124 #[.slice A js.length c, .bool bb, .slice B vs.length d, .func (.func 125) #[] #[]] w fun e w' => e = .returned (.bool (mtW js bb vs)) ∧ Below w.heap.size w w' := by
 have HA := Lib.hid ha
 have HV := Lib.hid hv
 obtain ⟨m, hm⟩ : ∃ m, js.length = m := ⟨_, rfl⟩
 obtain ⟨q, hq⟩ : ∃ q, vs.length = q := ⟨_, rfl⟩
 obtain ⟨R, hR⟩ : ∃ R, mtW js bb vs = R := ⟨_, rfl⟩
 rw [hm, hq, hR]
 have la' : m ≤ 1000 := by omega
 have lv' : q ≤ 1000 := by omega
 have HM := Lib.hid hm
 have HQ := Lib.hid hq
 have HR := Lib.hid hR
 clear ha hv hm hq hR la lv
 go_enter Tryz.func124, Tryz.ntmps124
 go_wp2_with fail
 go_loopw [14, 9] (fun i s wr => ∃ k n : Nat, k ≤ m ∧ n ≤ q ∧ i = .int .i64 k ∧ s = .int .i64 n ∧ Hid (jvs (js.take k) bb = vvs (vs.take n)) ∧ Below w.heap.size w wr) (fun i _ _ => m - (intOf i).toNat)
 case atStart => exact ⟨0, 0, by omega, by omega, rfl, rfl, (by show _ = _; rfl), Below.refl _ _⟩
 case round =>
  obtain ⟨k, n, hk, hn, rfl, rfl, HP, hb⟩ := hrel
  by_cases hlt : k < m
  ·have i1 : (k : Int) < m := by omega
   obtain ⟨b, off, y, rfl, hbl, hx, hc⟩ := (HA.out.ext hb).at_ (k := k) (by rw [HM.out]; exact hlt)
   have HX := Lib.hid hx
   clear hx
   obtain ⟨jw, js_, jf, ⟨c0, c1_, c2_, c3, c4, c5_, c6, c7⟩⟩ := y
   have e0 : wr.cell? ⟨b, off + k * 11, none⟩ = some (.bool jw) := hc 0 _ rfl
   have e1 : wr.cell? ⟨b, off + k * 11 + 1, none⟩ = some (.int .i64 js_) := hc 1 _ rfl
   have e2 : wr.cell? ⟨b, off + k * 11 + 2, none⟩ = some (.int .i64 jf) := hc 2 _ rfl
   have e3 : wr.cell? ⟨b, off + k * 11 + 3, none⟩ = some (.int .u64 c0) := hc 3 _ rfl
   have e4 : wr.cell? ⟨b, off + k * 11 + 4, none⟩ = some (.int .u64 c1_) := hc 4 _ rfl
   have e5 : wr.cell? ⟨b, off + k * 11 + 5, none⟩ = some (.int .u64 c2_) := hc 5 _ rfl
   have e6 : wr.cell? ⟨b, off + k * 11 + 6, none⟩ = some (.int .u64 c3) := hc 6 _ rfl
   have e7 : wr.cell? ⟨b, off + k * 11 + 7, none⟩ = some (.int .u64 c4) := hc 7 _ rfl
   have e8 : wr.cell? ⟨b, off + k * 11 + 8, none⟩ = some (.int .u64 c5_) := hc 8 _ rfl
   have e9 : wr.cell? ⟨b, off + k * 11 + 9, none⟩ = some (.int .u64 c6) := hc 9 _ rfl
   have e10 : wr.cell? ⟨b, off + k * 11 + 10, none⟩ = some (.int .u64 c7) := hc 10 _ rfl
   obtain ⟨V6, hV6⟩ : ∃ V6, wr.alloc (.cells (zkj jw js_ jf c0 c1_ c2_ c3 c4 c5_ c6 c7).toArray 115) = V6 := ⟨_, rfl⟩
   have kJ := za hV6
   have B6 := zab hV6
   have zJ := kJ.lt
   obtain ⟨j0, j1, j2, j3, j4, j5, j6, j7, j8, j9, j10⟩ := zc11 kJ
   cases hwb : (jw != bb)
   ·have hwe : jw = bb := by simpa using hwb
    subst hwe
    by_cases hnq : n < q
    ·have hg : decide ((n : Int) ≥ (q : Int)) = false := by simp; omega
     have n1 : (n : Int) < q := by omega
     obtain ⟨b2, off2, v, rfl, hbl2, hx2, hc2⟩ := (HV.out.ext hb).at_ (k := n) (by rw [HQ.out]; exact hnq)
     obtain ⟨v0, v1, v2⟩ := v
     have HX2 := Lib.hid hx2
     clear hx2
     have zY : b2 < V6.heap.size := Nat.lt_of_lt_of_le hbl2 B6.size
     have y0 : V6.cell? ⟨b2, off2 + n * 3, none⟩ = some (.int .i64 v0) := cell_keep B6 (hc2 0 _ rfl) hbl2
     have y1 : V6.cell? ⟨b2, off2 + n * 3 + 1, none⟩ = some (.int .i64 v1) := cell_keep B6 (hc2 1 _ rfl) hbl2
     have y2 : V6.cell? ⟨b2, off2 + n * 3 + 2, none⟩ = some (.int .i64 v2) := cell_keep B6 (hc2 2 _ rfl) hbl2
     have hS : V6.drew.cell? ⟨wr.heap.size, 0, none⟩ = some (.bool jw) ∧ V6.drew.cell? ⟨wr.heap.size, 1, none⟩ = some (.int .i64 js_) ∧ V6.drew.cell? ⟨wr.heap.size, 2, none⟩ = some (.int .i64 jf) ∧ V6.drew.cell? ⟨wr.heap.size, 3, none⟩ = some (.int .u64 c0) ∧ V6.drew.cell? ⟨wr.heap.size, 4, none⟩ = some (.int .u64 c1_) ∧ V6.drew.cell? ⟨wr.heap.size, 5, none⟩ = some (.int .u64 c2_) ∧ V6.drew.cell? ⟨wr.heap.size, 6, none⟩ = some (.int .u64 c3) ∧ V6.drew.cell? ⟨wr.heap.size, 7, none⟩ = some (.int .u64 c4) ∧ V6.drew.cell? ⟨wr.heap.size, 8, none⟩ = some (.int .u64 c5_) ∧ V6.drew.cell? ⟨wr.heap.size, 9, none⟩ = some (.int .u64 c6) ∧ V6.drew.cell? ⟨wr.heap.size, 10, none⟩ = some (.int .u64 c7) ∧ V6.drew.cell? ⟨b2, off2 + n * 3, none⟩ = some (.int .i64 v0) ∧ V6.drew.cell? ⟨b2, off2 + n * 3 + 1, none⟩ = some (.int .i64 v1) ∧ V6.drew.cell? ⟨b2, off2 + n * 3 + 2, none⟩ = some (.int .i64 v2) := ⟨j0, j1, j2, j3, j4, j5, j6, j7, j8, j9, j10, y0, y1, y2⟩
     obtain ⟨vv, hvv⟩ : ∃ b, decide ((js_, jf) = (v0, v1)) = b := ⟨_, rfl⟩
     have HVV : Hid (decide ((js_, jf) = (v0, v1)) = vv) := hvv
     cases vv
     ·have HE : Hid (R = false) := by show _ = _; rw [← HR.out]; exact mt_diff HP.out HX.out HX2.out hvv
      clear hvv
      go_wp2_with fail
      (try rw [hV6])
      clear hV6 e0 e1 e2 e3 e4 e5 e6 e7 e8 e9 e10 hc hc2
      refine wp_region_held_drew (S := fun V => V.cell? ⟨wr.heap.size, 0, none⟩ = some (.bool jw) ∧ V.cell? ⟨wr.heap.size, 1, none⟩ = some (.int .i64 js_) ∧ V.cell? ⟨wr.heap.size, 2, none⟩ = some (.int .i64 jf) ∧ V.cell? ⟨wr.heap.size, 3, none⟩ = some (.int .u64 c0) ∧ V.cell? ⟨wr.heap.size, 4, none⟩ = some (.int .u64 c1_) ∧ V.cell? ⟨wr.heap.size, 5, none⟩ = some (.int .u64 c2_) ∧ V.cell? ⟨wr.heap.size, 6, none⟩ = some (.int .u64 c3) ∧ V.cell? ⟨wr.heap.size, 7, none⟩ = some (.int .u64 c4) ∧ V.cell? ⟨wr.heap.size, 8, none⟩ = some (.int .u64 c5_) ∧ V.cell? ⟨wr.heap.size, 9, none⟩ = some (.int .u64 c6) ∧ V.cell? ⟨wr.heap.size, 10, none⟩ = some (.int .u64 c7) ∧ V.cell? ⟨b2, off2 + n * 3, none⟩ = some (.int .i64 v0) ∧ V.cell? ⟨b2, off2 + n * 3 + 1, none⟩ = some (.int .i64 v1) ∧ V.cell? ⟨b2, off2 + n * 3 + 2, none⟩ = some (.int .i64 v2)) (by kernel_rfl) ?_ (fun hHeld => ?_)
      ·exact hS
      refine zht 0 ?_
      refine zht 1 ?_
      refine zht 2 ?_
      refine zhV 3 (.bool false) (fun w hSw => ?_) ?_
      ·(try dsimp only at hSw)
       go_simp
       first | done | (simp; omega)
      refine zht 4 ?_
      refine zht 5 ?_
      refine zht 6 ?_
      refine zht 7 ?_
      refine zht 8 ?_
      refine zht 9 ?_
      refine zht 10 ?_
      refine zhr 11 (fun K hK => ?_)
      go_simp
      refine (agR_any ⟨jw, js_, jf, ⟨c0, c1_, c2_, c3, c4, c5_, c6, c7⟩⟩ (v0, v1, v2) V6.drew).mono ?_
      rintro e7 w7 ⟨rfl, hb7⟩
      have b7 : Below V6.heap.size V6 w7 := ((Below.refl _ _).drew).trans hb7
      rw [HVV.out]
      have hS7 : w7.cell? ⟨wr.heap.size, 0, none⟩ = some (.bool jw) ∧ w7.cell? ⟨wr.heap.size, 1, none⟩ = some (.int .i64 js_) ∧ w7.cell? ⟨wr.heap.size, 2, none⟩ = some (.int .i64 jf) ∧ w7.cell? ⟨wr.heap.size, 3, none⟩ = some (.int .u64 c0) ∧ w7.cell? ⟨wr.heap.size, 4, none⟩ = some (.int .u64 c1_) ∧ w7.cell? ⟨wr.heap.size, 5, none⟩ = some (.int .u64 c2_) ∧ w7.cell? ⟨wr.heap.size, 6, none⟩ = some (.int .u64 c3) ∧ w7.cell? ⟨wr.heap.size, 7, none⟩ = some (.int .u64 c4) ∧ w7.cell? ⟨wr.heap.size, 8, none⟩ = some (.int .u64 c5_) ∧ w7.cell? ⟨wr.heap.size, 9, none⟩ = some (.int .u64 c6) ∧ w7.cell? ⟨wr.heap.size, 10, none⟩ = some (.int .u64 c7) ∧ w7.cell? ⟨b2, off2 + n * 3, none⟩ = some (.int .i64 v0) ∧ w7.cell? ⟨b2, off2 + n * 3 + 1, none⟩ = some (.int .i64 v1) ∧ w7.cell? ⟨b2, off2 + n * 3 + 2, none⟩ = some (.int .i64 v2) := ⟨cell_keep b7 j0 zJ, cell_keep b7 j1 zJ, cell_keep b7 j2 zJ, cell_keep b7 j3 zJ, cell_keep b7 j4 zJ, cell_keep b7 j5 zJ, cell_keep b7 j6 zJ, cell_keep b7 j7 zJ, cell_keep b7 j8 zJ, cell_keep b7 j9 zJ, cell_keep b7 j10 zJ, cell_keep b7 y0 zY, cell_keep b7 y1 zY, cell_keep b7 y2 zY⟩
      go_wp2_with fail
      refine hK.out _ _ (by exact hS7) fun hHeld => ?_
      clear hK K
      (try simp only [Act.put, zy0, zy1, zy2])
      refine zht 12 ?_
      refine zht 13 ?_
      refine wpAnyH_done (by kernel_rfl) ?_ _
      go_wp2_with fail
      go_ret
      refine ⟨?_, hb.trans ((B6.trans (b7.mono B6.size)).mono hb.size)⟩
      rw [HE.out]
      rfl
     ·have HN : Hid (jvs (js.take (k + 1)) jw = vvs (vs.take (n + 1))) := mt_same HP.out HX.out HX2.out hvv
      clear hvv
      go_wp2_with fail
      (try rw [hV6])
      clear hV6 e0 e1 e2 e3 e4 e5 e6 e7 e8 e9 e10 hc hc2
      refine wp_region_held_drew (S := fun V => V.cell? ⟨wr.heap.size, 0, none⟩ = some (.bool jw) ∧ V.cell? ⟨wr.heap.size, 1, none⟩ = some (.int .i64 js_) ∧ V.cell? ⟨wr.heap.size, 2, none⟩ = some (.int .i64 jf) ∧ V.cell? ⟨wr.heap.size, 3, none⟩ = some (.int .u64 c0) ∧ V.cell? ⟨wr.heap.size, 4, none⟩ = some (.int .u64 c1_) ∧ V.cell? ⟨wr.heap.size, 5, none⟩ = some (.int .u64 c2_) ∧ V.cell? ⟨wr.heap.size, 6, none⟩ = some (.int .u64 c3) ∧ V.cell? ⟨wr.heap.size, 7, none⟩ = some (.int .u64 c4) ∧ V.cell? ⟨wr.heap.size, 8, none⟩ = some (.int .u64 c5_) ∧ V.cell? ⟨wr.heap.size, 9, none⟩ = some (.int .u64 c6) ∧ V.cell? ⟨wr.heap.size, 10, none⟩ = some (.int .u64 c7) ∧ V.cell? ⟨b2, off2 + n * 3, none⟩ = some (.int .i64 v0) ∧ V.cell? ⟨b2, off2 + n * 3 + 1, none⟩ = some (.int .i64 v1) ∧ V.cell? ⟨b2, off2 + n * 3 + 2, none⟩ = some (.int .i64 v2)) (by kernel_rfl) ?_ (fun hHeld => ?_)
      ·exact hS
      refine zht 0 ?_
      refine zht 1 ?_
      refine zht 2 ?_
      refine zhV 3 (.bool false) (fun w hSw => ?_) ?_
      ·(try dsimp only at hSw)
       go_simp
       first | done | (simp; omega)
      refine zht 4 ?_
      refine zht 5 ?_
      refine zht 6 ?_
      refine zht 7 ?_
      refine zht 8 ?_
      refine zht 9 ?_
      refine zht 10 ?_
      refine zhr 11 (fun K hK => ?_)
      go_simp
      refine (agR_any ⟨jw, js_, jf, ⟨c0, c1_, c2_, c3, c4, c5_, c6, c7⟩⟩ (v0, v1, v2) V6.drew).mono ?_
      rintro e7 w7 ⟨rfl, hb7⟩
      have b7 : Below V6.heap.size V6 w7 := ((Below.refl _ _).drew).trans hb7
      rw [HVV.out]
      have hS7 : w7.cell? ⟨wr.heap.size, 0, none⟩ = some (.bool jw) ∧ w7.cell? ⟨wr.heap.size, 1, none⟩ = some (.int .i64 js_) ∧ w7.cell? ⟨wr.heap.size, 2, none⟩ = some (.int .i64 jf) ∧ w7.cell? ⟨wr.heap.size, 3, none⟩ = some (.int .u64 c0) ∧ w7.cell? ⟨wr.heap.size, 4, none⟩ = some (.int .u64 c1_) ∧ w7.cell? ⟨wr.heap.size, 5, none⟩ = some (.int .u64 c2_) ∧ w7.cell? ⟨wr.heap.size, 6, none⟩ = some (.int .u64 c3) ∧ w7.cell? ⟨wr.heap.size, 7, none⟩ = some (.int .u64 c4) ∧ w7.cell? ⟨wr.heap.size, 8, none⟩ = some (.int .u64 c5_) ∧ w7.cell? ⟨wr.heap.size, 9, none⟩ = some (.int .u64 c6) ∧ w7.cell? ⟨wr.heap.size, 10, none⟩ = some (.int .u64 c7) ∧ w7.cell? ⟨b2, off2 + n * 3, none⟩ = some (.int .i64 v0) ∧ w7.cell? ⟨b2, off2 + n * 3 + 1, none⟩ = some (.int .i64 v1) ∧ w7.cell? ⟨b2, off2 + n * 3 + 2, none⟩ = some (.int .i64 v2) := ⟨cell_keep b7 j0 zJ, cell_keep b7 j1 zJ, cell_keep b7 j2 zJ, cell_keep b7 j3 zJ, cell_keep b7 j4 zJ, cell_keep b7 j5 zJ, cell_keep b7 j6 zJ, cell_keep b7 j7 zJ, cell_keep b7 j8 zJ, cell_keep b7 j9 zJ, cell_keep b7 j10 zJ, cell_keep b7 y0 zY, cell_keep b7 y1 zY, cell_keep b7 y2 zY⟩
      go_wp2_with fail
      refine hK.out _ _ (by exact hS7) fun hHeld => ?_
      clear hK K
      (try simp only [Act.put, zy0, zy1, zy2])
      refine zht 12 ?_
      refine zht 13 ?_
      refine wpAnyH_done (by kernel_rfl) ?_ _
      go_wp2_with fail
      go_roundw
      case rel => exact ⟨k + 1, n + 1, by omega, by omega, by go_num, by go_num, HN, hb.trans ((B6.trans (b7.mono B6.size)).mono hb.size)⟩
      case measure => simp [intOf]; omega
    ·have hg : decide ((n : Int) ≥ (q : Int)) = true := by simp; omega
     have HE : Hid (R = false) := by show _ = _; rw [← HR.out]; exact mt_over HP.out HX.out (by rw [HQ.out]; omega)
     go_wp2_with fail
     (try rw [hV6])
     clear hV6 e0 e1 e2 e3 e4 e5 e6 e7 e8 e9 e10 hc
     refine wp_region_held_drew (S := fun _ => True) (by kernel_rfl) ?_ (fun hHeld => ?_)
     ·trivial
     refine zht 0 ?_
     refine zht 1 ?_
     refine zht 2 ?_
     refine zhV 3 (.bool true) (fun w hSw => ?_) ?_
     ·(try dsimp only at hSw)
      go_simp
      first | done | rfl | omega | (trace_state; fail)
     refine zht 4 ?_
     refine zhu 5 ?_
     refine zhu 6 ?_
     refine zhu 7 ?_
     refine zhu 8 ?_
     refine zhu 9 ?_
     refine zhu 10 ?_
     refine zhu 11 ?_
     refine zhu 12 ?_
     refine zht 13 ?_
     refine wpAnyH_done (by kernel_rfl) ?_ _
     go_wp2_with fail
     go_ret
     refine ⟨?_, hb.trans ((B6.drew).mono hb.size)⟩
     rw [HE.out]
     rfl
   ·have HN : Hid (jvs (js.take (k + 1)) bb = vvs (vs.take n)) := mt_skip HP.out HX.out (by simpa using hwb)
    have hwb0 : jw ≠ bb := by simpa using hwb
    clear hwb
    cases jw <;> cases bb <;> first
     | exact absurd rfl hwb0
     | (clear hwb0
        go_wp2_with fail
        (try rw [hV6])
        go_wp2_with fail
        go_roundw
        case rel => exact ⟨k + 1, n, by omega, by omega, by go_num, by go_num, HN, hb.trans (B6.mono hb.size)⟩
        case measure => simp [intOf]; omega)
  ·obtain rfl : k = m := by omega
   have hR2 : R = ((n : Int) == (q : Int)) := by
    rw [← HR.out]
    exact mt_end (by rw [← HM.out] at HP; simpa using HP.out) HQ.out hn
   subst hR2
   go_wp2_with fail
   go_ret
   exact ⟨rfl, hb⟩
theorem EqI_any (A B : Option Addr) (c d : Nat) (l m : List Int) (w : World) (ha : SR intE w A l) (hv : SR intE w B m) (la : l.length ≤ 1000) (lv : m.length ≤ 1000) :
  Calls Tryz.prog 128 #[.slice A l.length c, .slice B m.length d] w fun e w' => e = .returned (.bool (decide (l = m))) ∧ Below w.heap.size w w' := by
 have HA := Lib.hid ha
 have HV := Lib.hid hv
 obtain ⟨R, hR⟩ : ∃ R, decide (l = m) = R := ⟨_, rfl⟩
 rw [hR]
 by_cases hlen : l.length = m.length
 ·obtain ⟨n, hn⟩ : ∃ n, l.length = n := ⟨_, rfl⟩
  rw [hn]
  have HM : Hid (m.length = n) := by show _ = _; omega
  rw [HM.out]
  have HN := Lib.hid hn
  have HR := Lib.hid hR
  have la' : n ≤ 1000 := by omega
  clear ha hv hn hR la lv hlen
  go_enter Tryz.func128, Tryz.ntmps128
  go_wp2_with fail
  go_loopw [13] (fun i wr => ∃ k : Nat, k ≤ n ∧ i = .int .i64 k ∧ Hid (l.take k = m.take k) ∧ Below w.heap.size w wr) (fun i _ => n - (intOf i).toNat)
  case atStart => exact ⟨0, by omega, rfl, (by show _ = _; rfl), Below.refl _ _⟩
  case round =>
   obtain ⟨k, hk, rfl, HP, hb⟩ := hrel
   by_cases hlt : k < n
   ·have i1 : (k : Int) < n := by omega
    obtain ⟨b, off, x, rfl, hbl, hx, hc⟩ := (HA.out.ext hb).at_ (k := k) (by rw [HN.out]; exact hlt)
    obtain ⟨b2, off2, y, rfl, hbl2, hy, hc2⟩ := (HV.out.ext hb).at_ (k := k) (by rw [HM.out]; exact hlt)
    have HX := Lib.hid hx
    have HY := Lib.hid hy
    have z1 : (intE).sz = 1 := rfl
    have a0 : wr.cell? ⟨b, off + k, none⟩ = some (.int .i64 x) := by simpa [z1] using hc 0 _ rfl
    have a1 : wr.cell? ⟨b2, off2 + k, none⟩ = some (.int .i64 y) := by simpa [z1] using hc2 0 _ rfl
    have hS : wr.drew.cell? ⟨b, off + k, none⟩ = some (.int .i64 x) ∧ wr.drew.cell? ⟨b2, off2 + k, none⟩ = some (.int .i64 y) := ⟨a0, a1⟩
    clear hx hy hc hc2 a0 a1 z1
    by_cases e : x = y
    ·subst e
     have HQ : Hid (l.take (k + 1) = m.take (k + 1)) := by show _ = _; rw [List.take_add_one, List.take_add_one, HX.out, HY.out, HP.out]
     go_wp2_with fail
     refine wp_region_held_drew (S := fun W => W.cell? ⟨b, off + k, none⟩ = some (.int .i64 x) ∧ W.cell? ⟨b2, off2 + k, none⟩ = some (.int .i64 x)) (by kernel_rfl) ?_ (fun hHeld => ?_)
     ·exact hS
     refine zht 0 ?_
     refine zht 1 ?_
     refine zht 2 ?_
     refine zht 3 ?_
     refine zht 4 ?_
     refine zht 5 ?_
     refine zht 6 ?_
     refine zht 7 ?_
     refine zht 8 ?_
     refine wpAnyH_done (by kernel_rfl) ?_ _
     go_wp2_with fail
     go_roundw
     case rel => exact ⟨k + 1, by omega, by go_num, HQ, hb.drew⟩
     case measure => simp [intOf]; omega
    ·have hxy : (x != y) = true := by simpa using e
     have hxy2 : (x == y) = false := by simpa using e
     have HE : Hid (R = false) := by
      show _ = _
      rw [← HR.out]
      simp only [decide_eq_false_iff_not]
      intro h
      subst h
      have := HX.out.symm.trans HY.out
      injection this with this
      exact e this
     go_wp2_with fail
     refine wp_region_held_drew (S := fun W => W.cell? ⟨b, off + k, none⟩ = some (.int .i64 x) ∧ W.cell? ⟨b2, off2 + k, none⟩ = some (.int .i64 y)) (by kernel_rfl) ?_ (fun hHeld => ?_)
     ·exact hS
     refine zht 0 ?_
     refine zht 1 ?_
     refine zht 2 ?_
     refine zht 3 ?_
     refine zht 4 ?_
     refine zht 5 ?_
     refine zht 6 ?_
     refine zht 7 ?_
     refine zht 8 ?_
     refine wpAnyH_done (by kernel_rfl) ?_ _
     go_wp2_with fail
     go_ret
     refine ⟨?_, hb.drew⟩
     rw [HE.out]
     rfl
   ·obtain rfl : k = n := by omega
    have HE : Hid (R = true) := by
     show _ = _
     rw [← HR.out]
     have h := HP.out
     rw [List.take_of_length_le (by rw [HN.out]; exact Nat.le_refl _), List.take_of_length_le (by rw [HM.out]; exact Nat.le_refl _)] at h
     simpa using h
    go_wp2_with fail
    go_ret
    refine ⟨?_, hb⟩
    rw [HE.out]
    rfl
 ·have hne : ((l.length : Int) != (m.length : Int)) = true := by simpa using (by omega : ¬ (l.length : Int) = m.length)
  have HE : Hid (R = false) := by
   show _ = _
   rw [← hR]
   simp only [decide_eq_false_iff_not]
   intro h
   exact hlen (by rw [h])
  clear ha hv hR hlen
  go_enter Tryz.func128, Tryz.ntmps128
  go_wp2_with fail
  go_ret
  refine ⟨?_, Below.refl _ _⟩
  rw [HE.out]
  rfl
theorem EqB_any (A B : Option Addr) (c d : Nat) (l m : List Bool) (w : World) (ha : SR boolE w A l) (hv : SR boolE w B m) (la : l.length ≤ 1000) (lv : m.length ≤ 1000) :
  Calls Tryz.prog 126 #[.slice A l.length c, .slice B m.length d] w fun e w' => e = .returned (.bool (decide (l = m))) ∧ Below w.heap.size w w' := by
 have HA := Lib.hid ha
 have HV := Lib.hid hv
 obtain ⟨R, hR⟩ : ∃ R, decide (l = m) = R := ⟨_, rfl⟩
 rw [hR]
 by_cases hlen : l.length = m.length
 ·obtain ⟨n, hn⟩ : ∃ n, l.length = n := ⟨_, rfl⟩
  rw [hn]
  have HM : Hid (m.length = n) := by show _ = _; omega
  rw [HM.out]
  have HN := Lib.hid hn
  have HR := Lib.hid hR
  have la' : n ≤ 1000 := by omega
  clear ha hv hn hR la lv hlen
  go_enter Tryz.func126, Tryz.ntmps126
  go_wp2_with fail
  go_loopw [13] (fun i wr => ∃ k : Nat, k ≤ n ∧ i = .int .i64 k ∧ Hid (l.take k = m.take k) ∧ Below w.heap.size w wr) (fun i _ => n - (intOf i).toNat)
  case atStart => exact ⟨0, by omega, rfl, (by show _ = _; rfl), Below.refl _ _⟩
  case round =>
   obtain ⟨k, hk, rfl, HP, hb⟩ := hrel
   by_cases hlt : k < n
   ·have i1 : (k : Int) < n := by omega
    obtain ⟨b, off, x, rfl, hbl, hx, hc⟩ := (HA.out.ext hb).at_ (k := k) (by rw [HN.out]; exact hlt)
    obtain ⟨b2, off2, y, rfl, hbl2, hy, hc2⟩ := (HV.out.ext hb).at_ (k := k) (by rw [HM.out]; exact hlt)
    have HX := Lib.hid hx
    have HY := Lib.hid hy
    have z1 : (boolE).sz = 1 := rfl
    have a0 : wr.cell? ⟨b, off + k, none⟩ = some (.bool x) := by simpa [z1] using hc 0 _ rfl
    have a1 : wr.cell? ⟨b2, off2 + k, none⟩ = some (.bool y) := by simpa [z1] using hc2 0 _ rfl
    have hS : wr.drew.cell? ⟨b, off + k, none⟩ = some (.bool x) ∧ wr.drew.cell? ⟨b2, off2 + k, none⟩ = some (.bool y) := ⟨a0, a1⟩
    clear hx hy hc hc2 a0 a1 z1
    by_cases e : x = y
    ·subst e
     have HQ : Hid (l.take (k + 1) = m.take (k + 1)) := by show _ = _; rw [List.take_add_one, List.take_add_one, HX.out, HY.out, HP.out]
     go_wp2_with fail
     refine wp_region_held_drew (S := fun W => W.cell? ⟨b, off + k, none⟩ = some (.bool x) ∧ W.cell? ⟨b2, off2 + k, none⟩ = some (.bool x)) (by kernel_rfl) ?_ (fun hHeld => ?_)
     ·exact hS
     refine zht 0 ?_
     refine zht 1 ?_
     refine zht 2 ?_
     refine zht 3 ?_
     refine zht 4 ?_
     refine zht 5 ?_
     refine zht 6 ?_
     refine zht 7 ?_
     refine zht 8 ?_
     refine wpAnyH_done (by kernel_rfl) ?_ _
     go_wp2_with fail
     go_roundw
     case rel => exact ⟨k + 1, by omega, by go_num, HQ, hb.drew⟩
     case measure => simp [intOf]; omega
    ·have hxy : (x != y) = true := by simpa using e
     have hxy2 : (x == y) = false := by simpa using e
     have HE : Hid (R = false) := by
      show _ = _
      rw [← HR.out]
      simp only [decide_eq_false_iff_not]
      intro h
      subst h
      have := HX.out.symm.trans HY.out
      injection this with this
      exact e this
     go_wp2_with fail
     refine wp_region_held_drew (S := fun W => W.cell? ⟨b, off + k, none⟩ = some (.bool x) ∧ W.cell? ⟨b2, off2 + k, none⟩ = some (.bool y)) (by kernel_rfl) ?_ (fun hHeld => ?_)
     ·exact hS
     refine zht 0 ?_
     refine zht 1 ?_
     refine zht 2 ?_
     refine zht 3 ?_
     refine zht 4 ?_
     refine zht 5 ?_
     refine zht 6 ?_
     refine zht 7 ?_
     refine zht 8 ?_
     refine wpAnyH_done (by kernel_rfl) ?_ _
     go_wp2_with fail
     go_ret
     refine ⟨?_, hb.drew⟩
     rw [HE.out]
     rfl
   ·obtain rfl : k = n := by omega
    have HE : Hid (R = true) := by
     show _ = _
     rw [← HR.out]
     have h := HP.out
     rw [List.take_of_length_le (by rw [HN.out]; exact Nat.le_refl _), List.take_of_length_le (by rw [HM.out]; exact Nat.le_refl _)] at h
     simpa using h
    go_wp2_with fail
    go_ret
    refine ⟨?_, hb⟩
    rw [HE.out]
    rfl
 ·have hne : ((l.length : Int) != (m.length : Int)) = true := by simpa using (by omega : ¬ (l.length : Int) = m.length)
  have HE : Hid (R = false) := by
   show _ = _
   rw [← hR]
   simp only [decide_eq_false_iff_not]
   intro h
   exact hlen (by rw [h])
  clear ha hv hR hlen
  go_enter Tryz.func126, Tryz.ntmps126
  go_wp2_with fail
  go_ret
  refine ⟨?_, Below.refl _ _⟩
  rw [HE.out]
  rfl
structure Lay where
 a0 : Option Addr
 c0 : Nat
 a1 : Option Addr
 c1 : Nat
 a2 : Option Addr
 c2 : Nat
 a3 : Option Addr
 c3 : Nat
 a4 : Option Addr
 c4 : Nat
 a5 : Option Addr
 c5 : Nat
 a6 : Option Addr
 c6 : Nat
 a7 : Option Addr
 c7 : Nat
def Lay.zero : Lay := ⟨none, 0, none, 0, none, 0, none, 0, none, 0, none, 0, none, 0, none, 0⟩
def swC (L : Lay) (s : Swp) : List Value := [.int .i64 s.cap, .slice L.a0 s.sl.refs.length L.c0, .slice L.a1 s.sl.busy.length L.c1, .slice L.a2 s.wr.length L.c2, .slice L.a3 s.rd.length L.c3, .slice L.a4 s.desc.length L.c4, .slice L.a5 s.dk.cells.length L.c5, .slice L.a6 s.dk.jobs.length L.c6, .int .i64 s.dk.room, .int .i64 s.po.size, .slice L.a7 s.po.free.length L.c7]
def swV (L : Lay) (s : Swp) : Value := .agg (swC L s).toArray
structure SwR (w : World) (L : Lay) (s : Swp) : Prop where
 r0 : SR intE w L.a0 s.sl.refs
 r1 : SR boolE w L.a1 s.sl.busy
 r2 : SR wrE w L.a2 s.wr
 r3 : SR rdE w L.a3 s.rd
 r4 : SR intE w L.a4 s.desc
 r5 : SR ctE w L.a5 s.dk.cells
 r6 : SR jbE w L.a6 s.dk.jobs
 r7 : SR intE w L.a7 s.po.free
theorem SwR.ext {w w' : World} {L : Lay} {s : Swp} (h : SwR w L s) (hb : Below w.heap.size w w') : SwR w' L s :=
 ⟨h.r0.ext hb, h.r1.ext hb, h.r2.ext hb, h.r3.ext hb, h.r4.ext hb, h.r5.ext hb, h.r6.ext hb, h.r7.ext hb⟩
def Part (A : Option Addr) (c : Nat) (A' : Option Addr) (c' : Nat) : Prop := c ≠ 0 → c' ≠ 0 → A.map (·.block) ≠ A'.map (·.block)
structure OwnM {α : Type} (E : Elt Tryz.prog α) (w : World) (base : Nat) (A : Option Addr) (c : Nat) (l : List α) : Prop where
 len : l.length ≤ c
 own : l = [] ∨ OwnR E w base (.slice A l.length c) l
theorem OwnE.mn {α : Type} {E : Elt Tryz.prog α} {w : World} {base : Nat} {A : Option Addr} {c : Nat} {l : List α} (h : OwnE E w base A c l) : OwnM E w base A c l := ⟨h.cr.2, h.own⟩
theorem OwnM.sr {α : Type} {E : Elt Tryz.prog α} {w : World} {base : Nat} {A : Option Addr} {c : Nat} {l : List α} (h : OwnM E w base A c l) : SR E w A l := by
 rcases h.own with e | h1
 ·subst e; exact SR.nil
 ·exact h1.sr.2
theorem OwnM.ext {α : Type} {E : Elt Tryz.prog α} {w w' : World} {base : Nat} {A : Option Addr} {c : Nat} {l : List α} (h : OwnM E w base A c l) (hb : Below w.heap.size w w') : OwnM E w' base A c l := ⟨h.len, h.own.imp_right fun h => h.ext hb⟩
theorem OwnM.base_ {α : Type} {E : Elt Tryz.prog α} {w : World} {base base' : Nat} {A : Option Addr} {c : Nat} {l : List α} (h : OwnM E w base A c l) (hb : base' ≤ base) : OwnM E w base' A c l := ⟨h.len, h.own.imp_right fun h => h.base_ hb⟩
theorem OwnM.lift {α : Type} {E : Elt Tryz.prog α} {w w' : World} {base : Nat} {A : Option Addr} {c : Nat} {l : List α} (h : OwnM E w base A c l) (hk : OwnE E w base A c l → OwnE E w' base A c l) : OwnM E w' base A c l := by
 rcases h.own with e | h1
 ·exact ⟨h.len, .inl e⟩
 ·exact (hk ⟨.inr h1, .inr h1⟩).mn
theorem OwnM.far {α : Type} {E : Elt Tryz.prog α} {w : World} {base : Nat} {A : Option Addr} {c : Nat} {l : List α} (h : OwnM E w base A c l) {p : Addr} (hp : p.block < base) (u : Value) : OwnM E (w.setCell p u) base A c l := h.lift fun h => h.far hp u
theorem OwnM.farN {α : Type} {E : Elt Tryz.prog α} {w : World} {base : Nat} {A : Option Addr} {c : Nat} {l : List α} (h : OwnM E w base A c l) {b o : Nat} (hb : b < base) (vs : List Value) : OwnM E (setN w b o vs) base A c l := h.lift fun h => h.farN hb vs
theorem OwnM.farB {α : Type} {E : Elt Tryz.prog α} {w : World} {base : Nat} {A : Option Addr} {c : Nat} {l : List α} (h : OwnM E w base A c l) {b : Nat} {t : TypeId} {cs : Array Value} (hb : Blk w b t cs) (ht : E.e ≠ t) (i : Nat) (u : Value) : OwnM E (w.setCell ⟨b, i, none⟩ u) base A c l := h.lift fun h => h.farB hb ht i u
theorem OwnM.keptT {α β : Type} {E : Elt Tryz.prog α} {E' : Elt Tryz.prog β} {w w' : World} {base base' : Nat} {A A' : Option Addr} {c c' : Nat} {l : List α} {l' : List β} (h : OwnM E w base A c l) (h' : OwnE E' w base' A' c' l') (ht : E.e ≠ E'.e) (hk : KeptE A' c' w w') : OwnM E w' base A c l := h.lift fun h => h.keptT h' ht hk
theorem OwnM.of_mine {w : World} {base : Nat} {A : Option Addr} {c : Nat} {l : List Wr} (h : Mine w base A c l) (hc : l.length ≤ c) : OwnM wrE w base A c l := by
 refine ⟨hc, h.imp_right fun h => ?_⟩
 have e : wrE.flat l = cellsW l := wrE_flat l
 unfold OwnR
 rw [e]
 exact h
structure SwO (w : World) (base : Nat) (L : Lay) (s : Swp) : Prop where
 o0 : OwnE intE w base L.a0 L.c0 s.sl.refs
 o1 : OwnE boolE w base L.a1 L.c1 s.sl.busy
 o2 : OwnM wrE w base L.a2 L.c2 s.wr
 o3 : OwnE rdE w base L.a3 L.c3 s.rd
 o4 : OwnE intE w base L.a4 L.c4 s.desc
 o5 : OwnE ctE w base L.a5 L.c5 s.dk.cells
 o6 : OwnE jbE w base L.a6 L.c6 s.dk.jobs
 o7 : OwnE intE w base L.a7 L.c7 s.po.free
 p0 : Part L.a0 L.c0 L.a4 L.c4
 p7 : Part L.a7 L.c7 L.a4 L.c4
theorem SwO.ext {w w' : World} {base : Nat} {L : Lay} {s : Swp} (h : SwO w base L s) (hb : Below w.heap.size w w') : SwO w' base L s :=
 ⟨h.o0.ext hb, h.o1.ext hb, h.o2.ext hb, h.o3.ext hb, h.o4.ext hb, h.o5.ext hb, h.o6.ext hb, h.o7.ext hb, h.p0, h.p7⟩
theorem SwO.base_ {w : World} {base base' : Nat} {L : Lay} {s : Swp} (h : SwO w base L s) (hb : base' ≤ base) : SwO w base' L s :=
 ⟨h.o0.base_ hb, h.o1.base_ hb, h.o2.base_ hb, h.o3.base_ hb, h.o4.base_ hb, h.o5.base_ hb, h.o6.base_ hb, h.o7.base_ hb, h.p0, h.p7⟩
theorem SwO.sw {w : World} {base : Nat} {L : Lay} {s : Swp} (h : SwO w base L s) : SwR w L s :=
 ⟨h.o0.sr, h.o1.sr, h.o2.sr, h.o3.sr, h.o4.sr, h.o5.sr, h.o6.sr, h.o7.sr⟩
theorem SwO.farN {w : World} {base : Nat} {L : Lay} {s : Swp} (h : SwO w base L s) {b o : Nat} (hb : b < base) (vs : List Value) : SwO (setN w b o vs) base L s :=
 ⟨h.o0.farN hb vs, h.o1.farN hb vs, h.o2.farN hb vs, h.o3.farN hb vs, h.o4.farN hb vs, h.o5.farN hb vs, h.o6.farN hb vs, h.o7.farN hb vs, h.p0, h.p7⟩
theorem SwO.zero {w : World} {base : Nat} : SwO w base .zero .zero :=
 ⟨OwnE.nil, OwnE.nil, OwnE.nil.mn, OwnE.nil, OwnE.nil, OwnE.nil, OwnE.nil, OwnE.nil, fun h => absurd rfl h, fun h => absurd rfl h⟩
theorem OwnE.part {α β : Type} {E : Elt Tryz.prog α} {E' : Elt Tryz.prog β} {w w' : World} {base base' : Nat} {A A' : Option Addr} {c c' : Nat} {l : List α} {l' : List β} (h : OwnE E w base A c l) (h' : OwnE E' w' base' A' c' l') (hb : w.heap.size ≤ base') : Part A c A' c' := fun hc hc' e => by
 obtain ⟨g, e1, _, h2⟩ := h.blk hc
 obtain ⟨g', e3, h4, _⟩ := h'.blk hc'
 subst e1 e3
 simp at e
 omega
theorem Part.symm {A A' : Option Addr} {c c' : Nat} (h : Part A c A' c') : Part A' c' A c := fun h1 h2 e => h h2 h1 e.symm
theorem OwnE.keptP {α : Type} {E : Elt Tryz.prog α} {w w' : World} {base : Nat} {A A' : Option Addr} {c c' : Nat} {l : List α} (h : OwnE E w base A c l) (hp : Part A c A' c') (hk : KeptE A' c' w w') : OwnE E w' base A c l := by
 by_cases hc : c = 0
 ·have hl0 : l = [] := by
   have := h.cr.2
   exact List.length_eq_zero_iff.1 (by omega)
  subst hl0 hc
  exact ⟨.inl ⟨rfl, SR.nil⟩, .inl rfl⟩
 ·have h1 := h.row hc
  have key : OwnR E w' base (.slice A l.length c) l := by
   obtain ⟨hl, ⟨e, hn⟩ | ⟨g, cap, cur, e, hg, hb, hr⟩⟩ := h1
   ·exact ⟨hl, .inl ⟨e, hn⟩⟩
   ·injection e with e1 e2 e3
    subst e1 e3
    refine ⟨hl, .inr ⟨g, _, cur, by rw [e2], hg, (hk g (Array.getElem?_eq_some_iff.1 hb).1 fun hc' e' => ?_).trans hb, hr⟩⟩
    exact hp hc hc' e'.symm
  exact ⟨.inr key, .inr key⟩
def SwPost (R : Swp) (z : List Value) (w : World) (e : Ending) (w' : World) : Prop := ∃ L, e = .returned (.tuple (swV L R :: z).toArray) ∧ SwO w' w.heap.size L R ∧ Below w.heap.size w w'
structure Few (s : Swp) : Prop where
 f0 : s.sl.refs.length ≤ 40
 f1 : s.sl.busy.length ≤ 40
 f2 : s.wr.length ≤ 1000
 f3 : s.rd.length ≤ 1000
 f4 : s.desc.length ≤ 1000
 f5 : s.dk.cells.length ≤ 1000
 f6 : s.dk.jobs.length ≤ 1000
 f7 : s.po.free.length ≤ 1000
def wtR : Value → Option (DataW Unit × List MemPlace)
 | .agg ⟨[.bool b, .int .i64 n]⟩ => some (.agg [.lit (.bool b), .lit (.int .i64 n)], [])
 | _ => none
noncomputable def wtT : MTy Tryz.prog Int (Bool × Int) where
 t := 124
 K := 3
 e := 128
 ht := Tryz.underlying124
 KK := Go.Maps.int_keyed Tryz.underlying3
 kv k := .int .i64 k
 kl k := .int .i64 k
 okk k := (Lit.int .i64 k).wf = true
 hkey k h := keyOf_int_mk Tryz.underlying3 h
 kvinj a b h := by injection h
 ev v := .agg #[.bool v.1, .int .i64 v.2]
 dt v := .agg [.lit (.bool v.1), .lit (.int .i64 v.2)]
 R := wtR
 oke _ := True
 hR v _ := rfl
 hinv u y h := by
  unfold wtR at h
  split at h
  ·cases h; exact ⟨(_, _), rfl, rfl⟩
  ·cases h
 dinj a b h := by
  injection h with h
  injection h with h1 h2
  injection h2 with h2 _
  injection h1 with h1; injection h1 with h1
  injection h2 with h2; injection h2 with _ h2
  exact Prod.ext h1 h2
 z := (false, 0)
 okz := trivial
 hz w := by first | exact Tryz.zeroValue128 w | simp [go_sem]
def wtv (b : Bool) (l : List Wr) : List (Int × Bool × Int) := (l.filter fun v => decide (v.2.2 ≠ 0)).map fun v => (v.2.2, b, v.1)
def wtV (s : Swp) : List (Int × Bool × Int) := wtv true s.wr ++ wtv false s.rd
theorem wtV_wtW (s : Swp) : wtW s = (wtV s).map fun x => (x.1, x.2.2) := by
 unfold wtW wtV wtv
 rw [List.map_append, List.filter_append, List.map_append, List.map_map, List.map_map]
 rfl
def lkV (l : List (Int × Bool × Int)) (p : Int) : Option (Bool × Int) := (l.find? fun x => decide (x.1 = p)).map (·.2)
theorem lkV_snoc (l : List (Int × Bool × Int)) (k : Int) (v : Bool × Int) (h : lkV l k = none) : (fun j => if j = k then some v else lkV l j) = lkV (l ++ [(k, v)]) := by
 funext j
 unfold lkV at *
 rw [List.find?_append]
 by_cases e : j = k
 ·subst e
  rw [if_pos rfl]
  rw [Option.map_eq_none_iff] at h
  rw [h]
  simp
 ·rw [if_neg e]
  have : ¬ k = j := fun h => e h.symm
  cases hh : l.find? (fun x => decide (x.1 = j)) with
  | none => simp [this]
  | some y => simp
theorem lkV_none {l : List (Int × Bool × Int)} {p : Int} : lkV l p = none ↔ ∀ x ∈ l, x.1 ≠ p := by
 unfold lkV
 rw [Option.map_eq_none_iff, List.find?_eq_none]
 simp
theorem lkV_some {l : List (Int × Bool × Int)} (hn : (l.map (·.1)).Nodup) {p : Int} {v : Bool × Int} : lkV l p = some v ↔ (p, v) ∈ l := by
 unfold lkV
 constructor
 ·intro h
  obtain ⟨x, hx, rfl⟩ := Option.map_eq_some_iff.1 h
  have h1 := List.mem_of_find?_eq_some hx
  have h2 := List.find?_some hx
  simp at h2
  subst h2
  exact h1
 ·intro h
  induction l with
  | nil => cases h
  | cons y l ih =>
   have hn' : y.1 ∉ l.map (·.1) ∧ (l.map (·.1)).Nodup := by
    have : (y.1 :: l.map (·.1)).Nodup := hn
    exact List.nodup_cons.1 this
   rcases List.mem_cons.1 h with e | h
   ·subst e
    simp
   ·have hne : ¬ y.1 = p := fun e => hn'.1 (by rw [e]; exact List.mem_map.2 ⟨_, h, rfl⟩)
    rw [List.find?_cons, decide_eq_false hne]
    exact ih hn'.2 h
theorem wtv_succ {b : Bool} {l : List Wr} {k : Nat} {v : Wr} (h : l[k]? = some v) : wtv b (l.take (k + 1)) = wtv b (l.take k) ++ (if v.2.2 = 0 then [] else [(v.2.2, b, v.1)]) := by
 unfold wtv
 rw [List.take_add_one, h]
 show List.map _ (List.filter _ (l.take k ++ [v])) = _
 rw [List.filter_append, List.map_append]
 by_cases e : v.2.2 = 0 <;> simp [e]
theorem wtv_mem {b : Bool} {l : List Wr} {x : Int × Bool × Int} : x ∈ wtv b l ↔ ∃ v ∈ l, v.2.2 ≠ 0 ∧ x = (v.2.2, b, v.1) := by
 unfold wtv
 constructor
 ·intro h
  obtain ⟨v, hv, rfl⟩ := List.mem_map.1 h
  rw [List.mem_filter] at hv
  exact ⟨v, hv.1, by simpa using hv.2, rfl⟩
 ·rintro ⟨v, h1, h2, rfl⟩
  exact List.mem_map.2 ⟨v, List.mem_filter.2 ⟨h1, by simpa using h2⟩, rfl⟩
theorem take_apart {l : List Wr} (hp : l.Pairwise apart) {k : Nat} {v x : Wr} (h : l[k]? = some v) (hx : x ∈ l.take k) : apart x v := by
 obtain ⟨hk, e⟩ := List.getElem?_eq_some_iff.1 h
 obtain ⟨i, hi, e2⟩ := List.getElem_of_mem hx
 rw [List.getElem_take] at e2
 rw [List.length_take] at hi
 rw [← e, ← e2]
 exact List.pairwise_iff_getElem.1 hp i k (by omega) hk (by omega)
theorem wtv_new {l : List Wr} (hv : Valid l) {k : Nat} {v : Wr} (h : l[k]? = some v) (h0 : v.2.2 ≠ 0) : lkV (wtv true (l.take k)) v.2.2 = none := by
 rw [lkV_none]
 intro x hx
 obtain ⟨y, hy, _, rfl⟩ := wtv_mem.1 hx
 rcases (take_apart hv.2.2 h hy).2.2 with e | e
 ·exact absurd e h0
 ·exact e
theorem wtv_nodup {l : List Wr} (hv : Valid l) : ∀ k, k ≤ l.length → ((wtv true (l.take k)).map (·.1)).Nodup
 | 0, _ => by simp [wtv]
 | k + 1, hk => by
  have ih := wtv_nodup hv k (by omega)
  have hx : l[k]? = some l[k] := List.getElem?_eq_getElem (by omega)
  rw [wtv_succ hx, List.map_append]
  by_cases e : (l[k]).2.2 = 0
  ·rw [if_pos e]; simpa using ih
  ·rw [if_neg e, List.nodup_append]
   refine ⟨ih, by simp, ?_⟩
   have := lkV_none.1 (wtv_new hv hx e)
   intro a ha b hb
   obtain ⟨y, hy, rfl⟩ := List.mem_map.1 ha
   simp at hb
   subst hb
   exact this y hy
theorem wtv_range {l : List Wr} (hv : ∀ x ∈ l, okW x = true) : ∀ x ∈ wtv true l, 1 ≤ x.1 ∧ x.1 ≤ 8 := fun x hx => by
 obtain ⟨v, h1, h2, rfl⟩ := wtv_mem.1 hx
 have := hv v h1
 unfold okW at this
 simp at this
 rcases this.2.2 with e | e
 ·exact absurd e h2
 ·exact e
def wgood (ws rs : List Wr) : Prop := ((wtv true ws ++ wtv false rs).map (·.1)).Nodup ∧ ∀ x ∈ wtv true ws ++ wtv false rs, 1 ≤ x.1 ∧ x.1 ≤ 8
theorem wtok_iff (s : Swp) : wtok s = true ↔ wgood s.wr s.rd := by
 have e : (wtW s).map (·.1) = (wtV s).map (·.1) := by rw [wtV_wtW, List.map_map]; rfl
 unfold wtok wgood
 rw [e, Bool.and_eq_true, decide_eq_true_eq, List.all_eq_true, wtV_wtW]
 show _ ↔ ((wtV s).map (·.1)).Nodup ∧ ∀ x ∈ wtV s, _
 constructor
 ·rintro ⟨h1, h2⟩
  refine ⟨h1, fun x hx => ?_⟩
  simpa using h2 _ (List.mem_map.2 ⟨x, hx, rfl⟩)
 ·rintro ⟨h1, h2⟩
  refine ⟨h1, fun y hy => ?_⟩
  obtain ⟨x, hx, rfl⟩ := List.mem_map.1 hy
  simpa using h2 x hx
theorem wgood_start {ws : List Wr} (hv : Valid ws) : wgood ws [] := by
 unfold wgood
 have e : wtv false [] = [] := rfl
 rw [e, List.append_nil]
 have := wtv_nodup hv ws.length (Nat.le_refl _)
 rw [List.take_length] at this
 exact ⟨this, wtv_range hv.2.1⟩
theorem wgood_zero {ws rs : List Wr} {k : Nat} {v : Wr} (h : wgood ws (rs.take k)) (hx : rs[k]? = some v) (h0 : v.2.2 = 0) : wgood ws (rs.take (k + 1)) := by
 unfold wgood at *
 rw [wtv_succ hx, if_pos h0, List.append_nil]
 exact h
theorem wgood_succ {ws rs : List Wr} {k : Nat} {v : Wr} (h : wgood ws (rs.take k)) (hx : rs[k]? = some v) (h0 : v.2.2 ≠ 0) (hn : lkV (wtv true ws ++ wtv false (rs.take k)) v.2.2 = none) (hr : 1 ≤ v.2.2 ∧ v.2.2 ≤ 8) : wgood ws (rs.take (k + 1)) := by
 unfold wgood at *
 rw [wtv_succ hx, if_neg h0, ← List.append_assoc]
 refine ⟨?_, fun x hx => ?_⟩
 ·rw [List.map_append, List.nodup_append]
  refine ⟨h.1, by simp, ?_⟩
  have := lkV_none.1 hn
  intro a ha b hb
  obtain ⟨y, hy, rfl⟩ := List.mem_map.1 ha
  simp at hb
  subst hb
  exact this y hy
 ·rcases List.mem_append.1 hx with hx | hx
  ·exact h.2 x hx
  ·simp at hx
   subst hx
   exact hr
theorem wgood_bad {ws rs : List Wr} {k : Nat} {v : Wr} (hx : rs[k]? = some v) (h0 : v.2.2 ≠ 0) (hn : (lkV (wtv true ws ++ wtv false (rs.take k)) v.2.2).isSome = true ∨ ¬ (1 ≤ v.2.2 ∧ v.2.2 ≤ 8)) : ¬ wgood ws rs := by
 have hs : (wtv true ws ++ wtv false (rs.take (k + 1))).Sublist (wtv true ws ++ wtv false rs) := by
  refine List.Sublist.append (List.Sublist.refl _) ?_
  unfold wtv
  exact List.Sublist.map _ (List.Sublist.filter _ (List.take_sublist _ _))
 rintro ⟨h1, h2⟩
 have h1 := h1.sublist (List.Sublist.map (·.1) hs)
 have h2 : ∀ x ∈ wtv true ws ++ wtv false (rs.take (k + 1)), 1 ≤ x.1 ∧ x.1 ≤ 8 := fun x hx => h2 x (hs.subset hx)
 rw [wtv_succ hx, if_neg h0, ← List.append_assoc] at h1 h2
 rcases hn with hn | hn
 ·rw [List.map_append, List.nodup_append] at h1
  have hnn : ¬ lkV (wtv true ws ++ wtv false (rs.take k)) v.2.2 = none := by
   intro e; rw [e] at hn; cases hn
  rw [lkV_none] at hnn
  refine hnn fun x hx e => ?_
  exact h1.2.2 x.1 (List.mem_map.2 ⟨x, hx, rfl⟩) v.2.2 (by simp) e
 ·exact hn (h2 (v.2.2, false, v.1) (by simp))
theorem wtV_lk (s : Swp) (h : wtok s = true) {p : Int} {v : Bool × Int} : lkV (wtV s) p = some v ↔ (p, v) ∈ wtV s := lkV_some ((wtok_iff s).1 h).1
theorem lkV_isSome {l : List (Int × Bool × Int)} {p : Int} : (lkV l p).isSome = l.any fun x => decide (x.1 = p) := by
 cases h : lkV l p with
 | none =>
  have := lkV_none.1 h
  symm
  show (l.any _) = false
  rw [List.any_eq_false]
  intro x hx
  simpa using this x hx
 | some v =>
  unfold lkV at h
  obtain ⟨x, hx, _⟩ := Option.map_eq_some_iff.1 h
  have h1 := List.mem_of_find?_eq_some hx
  have h2 := List.find?_some hx
  symm
  exact List.any_eq_true.2 ⟨x, h1, h2⟩
theorem any_wtW (s : Swp) (p : Int) : ((wtW s).any fun x => decide (x.1 = p)) = (lkV (wtV s) p).isSome := by
 rw [lkV_isSome, wtV_wtW, List.any_map]
 rfl
end Go.Proofs.YthijbipidbjpfaaGreatDoor
