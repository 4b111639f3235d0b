import Derived.Test.YthijbipidbjpfaaGreatDoorZC14
import Derived.Test.YthijbipidbjpfaaGreatDoorZC00
import Derived.Test.YthijbipidbjpfaaGreatDoorZC04
import Derived.Test.YthijbipidbjpfaaGreatDoorZC06
import Derived.Test.YthijbipidbjpfaaGreatDoorZC03
import Derived.Test.YthijbipidbjpfaaGreatDoorZC09
set_option linter.unusedSimpArgs false
set_option linter.unusedVariables false
set_option maxRecDepth 100000
set_option maxHeartbeats 8000000
namespace Go.Proofs.YthijbipidbjpfaaGreatDoor
open Go.RowKit Go.Maps
def DjPost (R : Dsk × Jb × Int) (w : World) (e : Ending) (w' : World) : Prop := ∃ A c B d, e = .returned (.tuple #[dkV A c B d R.1, jbV R.2.1, .int .i64 R.2.2]) ∧ OwnE ctE w' w.heap.size A c R.1.cells ∧ OwnE jbE w' w.heap.size B d R.1.jobs ∧ Below w.heap.size w w'
theorem OwnE.grown {α : Type} {E : Elt Tryz.prog α} {w w' : World} {base b : Nat} {A : Option Addr} {c : Nat} {l : List α} (h : OwnE E w base A c l) (hg : w.grownBy w' (some b)) (hb : b < base) : OwnE E w' base A c l := by
 by_cases hc : c = 0
 ·have hl0 : l = [] := by
   have := h.cr.2
   exact List.length_eq_zero_iff.1 (by omega)
  subst hl0 hc
  exact ⟨.inl ⟨rfl, SR.nil⟩, .inl rfl⟩
 ·have h1 := h.row hc
  have key : OwnR E w' base (.slice A l.length c) l := by
   obtain ⟨hl, ⟨e, hn⟩ | ⟨g, cap, cur, e, hg', hb', hr⟩⟩ := h1
   ·exact ⟨hl, .inl ⟨e, hn⟩⟩
   ·refine ⟨hl, .inr ⟨g, cap, cur, e, hg', ?_, hr⟩⟩
    rw [hg.block g (Array.getElem?_eq_some_iff.1 hb').1 (by simp; omega)]
    exact hb'
  exact ⟨.inr key, .inr key⟩
theorem cmpD_good {d : Dsk} (h : (chkD d).1 = 0) {k : Nat} {j : Jb} (hj : d.jobs[k]? = some j) : cmpD d k = ((dkR d j k).1, (dkR d j k).2, 0) := by
 have hk := (List.getElem?_eq_some_iff.1 hj).1
 have hg : d.jobs.getD k .zero = j := by rw [List.getD_eq_getElem?_getD, hj]; rfl
 unfold cmpD dkR
 rw [if_neg (by simpa using h), if_neg (by omega), Int.toNat_natCast, hg]
 cases hw : j.wr <;> simp [hw]
theorem dComplete_any (A B : Option Addr) (c d : Nat) (k0 : Dsk) (i : Int) (w : World) (ha : SR ctE w A k0.cells) (hb : SR jbE w B k0.jobs) (la : k0.cells.length ≤ 1000) (lb : k0.jobs.length ≤ 1000) :
  Calls Tryz.prog 137 #[dkV A c B d k0, .int .i64 i] w (DjPost (cmpD k0 i) w) := by
 have HA := Lib.hid ha
 have HB := Lib.hid hb
 obtain ⟨⟨z, nz⟩, hz⟩ : ∃ r, chkD k0 = r := ⟨_, rfl⟩
 have HZ := Lib.hid hz
 clear ha hb
 obtain ⟨X, hX⟩ : ∃ X, ((w.alloc (.cells #[.slice A k0.cells.length c, .slice B k0.jobs.length d, .int .i64 k0.room] 31)).alloc (.cells #[.slice none 0 0, .slice none 0 0, .int .i64 0] 31)).alloc (.cells (zkj false 0 0 0 0 0 0 0 0 0 0).toArray 115) = X := ⟨_, rfl⟩
 have kD : Blk X w.heap.size 31 #[.slice A k0.cells.length c, .slice B k0.jobs.length d, .int .i64 k0.room] := by rw [← hX]; exact zbk
 have kA : Blk X (w.heap.size + 1) 31 #[.slice none 0 0, .slice none 0 0, .int .i64 0] := by rw [← hX]; exact (Blk.new_ (by simp) rfl : Blk _ (w.heap.size + 1) _ _).alloc_ _
 have kB : Blk X (w.heap.size + 2) 115 (zkj false 0 0 0 0 0 0 0 0 0 0).toArray := by rw [← hX]; exact Blk.new_ (by simp) rfl
 have BX : Below w.heap.size w X := by rw [← hX]; exact zbl
 have hXs : X.heap.size = w.heap.size + 3 := by rw [← hX]; simp
 unfold dkV
 by_cases z0 : z = 0
 ·subst z0
  have hok := (chkD_ok (d := k0)).1 (by rw [hz])
  by_cases i0 : i < 0
  ·have HE : Hid (cmpD k0 i = (.zero, .zero, 6)) := by show _ = _; unfold cmpD; rw [hz, if_neg (by simp), if_pos (.inl i0)]
   have i0b : decide (i < 0) = true := by simpa using i0
   rw [HE.out]
   clear hz hok
   obtain ⟨q0, q1, q2⟩ := zc3 kD
   have zD := kD.lt
   go_enter Tryz.func137, Tryz.ntmps137
   go_wp2_with fail
   (try rw [hX])
   clear q0 q1 q2 zD
   refine (dCheck_any A B c d k0 X (HB.out.ext BX) (by omega) (by omega) HZ.out).mono ?_
   rintro e1 w1 ⟨rfl, hb1⟩
   have B1 := zbt BX hb1
   replace kD := kD.below_ hb1 kD.lt
   replace kA := kA.below_ hb1 kA.lt
   replace kB := kB.below_ hb1 kB.lt
   have zD := kD.lt
   have zA := kA.lt
   have zB := kB.lt
   obtain ⟨q0, q1, q2⟩ := zc3 kD
   obtain ⟨ta0, ta1, ta2⟩ := zc3 kA
   obtain ⟨ga0, ga1, ga2, -⟩ := zf kA
   obtain ⟨tb0, tb1, tb2, tb3, tb4, tb5, tb6, tb7, tb8, tb9, tb10⟩ := zc11 kB
   obtain ⟨gb0, gb1, gb2, gb3, gb4, gb5, gb6, gb7, gb8, gb9, gb10, -⟩ := zf kB
   go_wp2_with fail
   go_wp2_with fail
   obtain ⟨W9, hW9⟩ : ∃ V, setN (setN w1 (w.heap.size + 1) 0 [.slice none 0 0, .slice none 0 0, .int .i64 0]) (w.heap.size + 2) 0 (zkj false 0 0 0 0 0 0 0 0 0 0) = V := ⟨_, rfl⟩
   rw [zu hW9]
   have kA9 : Blk W9 (w.heap.size + 1) 31 #[.slice none 0 0, .slice none 0 0, .int .i64 0] := by rw [← hW9]; exact (blk_setN kA _ rfl).kept (grown_setN _ _ _ _) (by simp)
   have kB9 : Blk W9 (w.heap.size + 2) 115 (zkj false 0 0 0 0 0 0 0 0 0 0).toArray := by rw [← hW9]; exact blk_setN (kB.kept (grown_setN _ _ _ _) (by simp)) _ rfl
   have b9 : Below w.heap.size w W9 := by rw [← hW9]; exact below_setN (below_setN B1 (by omega) _) (by omega) _
   clear hW9
   obtain ⟨rp0, rp1, rp2⟩ := zc3 kA9
   refine bodyPost_ret (by simp [results, Tryz.results137, go_sem, rp0, rp1, rp2, zc11 kB9] <;> rfl) rfl ?_
   exact ⟨none, 0, none, 0, by rfl, OwnE.nil, OwnE.nil, b9⟩
  ·have i0b : decide (i < 0) = false := by simpa using i0
   by_cases i1 : (k0.jobs.length : Int) ≤ i
   ·have HE : Hid (cmpD k0 i = (.zero, .zero, 6)) := by show _ = _; unfold cmpD; rw [hz, if_neg (by simp), if_pos (.inr i1)]
    have i1b : decide (i ≥ (k0.jobs.length : Int)) = true := by simpa using i1
    rw [HE.out]
    clear hz hok
    obtain ⟨q0, q1, q2⟩ := zc3 kD
    have zD := kD.lt
    go_enter Tryz.func137, Tryz.ntmps137
    go_wp2_with fail
    (try rw [hX])
    clear q0 q1 q2 zD
    refine (dCheck_any A B c d k0 X (HB.out.ext BX) (by omega) (by omega) HZ.out).mono ?_
    rintro e1 w1 ⟨rfl, hb1⟩
    have B1 := zbt BX hb1
    replace kD := kD.below_ hb1 kD.lt
    replace kA := kA.below_ hb1 kA.lt
    replace kB := kB.below_ hb1 kB.lt
    have zD := kD.lt
    have zA := kA.lt
    have zB := kB.lt
    obtain ⟨q0, q1, q2⟩ := zc3 kD
    obtain ⟨ta0, ta1, ta2⟩ := zc3 kA
    obtain ⟨ga0, ga1, ga2, -⟩ := zf kA
    obtain ⟨tb0, tb1, tb2, tb3, tb4, tb5, tb6, tb7, tb8, tb9, tb10⟩ := zc11 kB
    obtain ⟨gb0, gb1, gb2, gb3, gb4, gb5, gb6, gb7, gb8, gb9, gb10, -⟩ := zf kB
    go_wp2_with fail
    go_wp2_with fail
    obtain ⟨W9, hW9⟩ : ∃ V, setN (setN w1 (w.heap.size + 1) 0 [.slice none 0 0, .slice none 0 0, .int .i64 0]) (w.heap.size + 2) 0 (zkj false 0 0 0 0 0 0 0 0 0 0) = V := ⟨_, rfl⟩
    rw [zu hW9]
    have kA9 : Blk W9 (w.heap.size + 1) 31 #[.slice none 0 0, .slice none 0 0, .int .i64 0] := by rw [← hW9]; exact (blk_setN kA _ rfl).kept (grown_setN _ _ _ _) (by simp)
    have kB9 : Blk W9 (w.heap.size + 2) 115 (zkj false 0 0 0 0 0 0 0 0 0 0).toArray := by rw [← hW9]; exact blk_setN (kB.kept (grown_setN _ _ _ _) (by simp)) _ rfl
    have b9 : Below w.heap.size w W9 := by rw [← hW9]; exact below_setN (below_setN B1 (by omega) _) (by omega) _
    clear hW9
    obtain ⟨rp0, rp1, rp2⟩ := zc3 kA9
    refine bodyPost_ret (by simp [results, Tryz.results137, go_sem, rp0, rp1, rp2, zc11 kB9] <;> rfl) rfl ?_
    exact ⟨none, 0, none, 0, by rfl, OwnE.nil, OwnE.nil, b9⟩
   ·obtain ⟨k, rfl⟩ : ∃ k : Nat, i = k := ⟨i.toNat, by omega⟩
    have i1b : decide ((k : Int) ≥ (k0.jobs.length : Int)) = false := by simpa using i1
    have hk : k < k0.jobs.length := by omega
    obtain ⟨j, hj⟩ : ∃ j, k0.jobs[k]? = some j := ⟨_, List.getElem?_eq_getElem hk⟩
    have hjm := hok.inr j (List.mem_of_getElem? hj)
    have HE := Lib.hid (cmpD_good (by rw [hz]) hj)
    rw [HE.out]
    have HJ := Lib.hid hj
    have hR1 : (dkR k0 j k).1.room = k0.room := by unfold dkR; cases j.wr <;> rfl
    have hR2 : (dkR k0 j k).1.cells.length = k0.cells.length := by unfold dkR; cases j.wr <;> simp
    obtain ⟨⟨RD, RJ⟩, hRR⟩ : ∃ R, dkR k0 j k = R := ⟨_, rfl⟩
    rw [hRR] at hR1 hR2 ⊢
    dsimp only at hR1 hR2 ⊢
    obtain ⟨yw, ys, yf, ⟨y0_, y1_, y2_, y3_, y4_, y5_, y6_, y7_⟩⟩ := RJ
    have HRR := Lib.hid hRR
    have HR1 := Lib.hid hR1
    have HR2 := Lib.hid hR2
    clear hz hok hRR hj hR1 hR2
    obtain ⟨q0, q1, q2⟩ := zc3 kD
    have zD := kD.lt
    go_enter Tryz.func137, Tryz.ntmps137
    go_wp2_with fail
    (try rw [hX])
    clear q0 q1 q2 zD
    refine (dCheck_any A B c d k0 X (HB.out.ext BX) (by omega) (by omega) HZ.out).mono ?_
    rintro e1 w1 ⟨rfl, hb1⟩
    have B1 := zbt BX hb1
    replace kD := kD.below_ hb1 kD.lt
    replace kA := kA.below_ hb1 kA.lt
    replace kB := kB.below_ hb1 kB.lt
    have zD := kD.lt
    have zA := kA.lt
    have zB := kB.lt
    obtain ⟨q0, q1, q2⟩ := zc3 kD
    obtain ⟨ta0, ta1, ta2⟩ := zc3 kA
    obtain ⟨ga0, ga1, ga2, -⟩ := zf kA
    obtain ⟨tb0, tb1, tb2, tb3, tb4, tb5, tb6, tb7, tb8, tb9, tb10⟩ := zc11 kB
    obtain ⟨gb0, gb1, gb2, gb3, gb4, gb5, gb6, gb7, gb8, gb9, gb10, -⟩ := zf kB
    go_wp2_with fail
    go_wp2_with fail
    refine (dClone_any A B c d k0 w1 (HA.out.ext B1) (HB.out.ext B1) la lb).mono ?_
    rintro e2 w2 ⟨A1, c1, A2, c2, rfl, o1, o2, hb2⟩
    have hs12 := hb2.size
    have B2 := zbt B1 hb2
    replace kA := kA.below_ hb2 kA.lt
    replace kB := kB.below_ hb2 kB.lt
    clear q0 q1 q2 ta0 ta1 ta2 ga0 ga1 ga2 tb0 gb0 tb1 gb1 tb2 gb2 tb3 gb3 tb4 gb4 tb5 gb5 tb6 gb6 tb7 gb7 tb8 gb8 tb9 gb9 tb10 gb10 kD
    unfold dkV
    obtain ⟨X3, hX3⟩ : ∃ V, w2.alloc (.cells #[.slice A1 k0.cells.length c1, .slice A2 k0.jobs.length c2, .int .i64 k0.room] 31) = V := ⟨_, rfl⟩
    have kE := za hX3
    have b3 := zab hX3
    have hX3s : X3.heap.size = w2.heap.size + 1 := by rw [← hX3]; simp
    have o13 := o1.ext b3
    have o23 := o2.ext b3
    replace kA := kA.below_ b3 kA.lt
    replace kB := kB.below_ b3 kB.lt
    go_wp2_with fail
    (try rw [hX3])
    clear hX3
    refine (dComplete_first A1 A2 c1 c2 w2.heap.size w1.heap.size k0 k j X3 HJ.out o13 o23 kE (by omega) (by decide) la lb hjm.1 hjm.2.1).mono ?_
    rw [HRR.out]
    rintro e3 w3 ⟨A5, c5, rfl, kE3, oA, oJ, hb3⟩
    obtain ⟨n1, hn1⟩ : ∃ n, RD.cells.length = n := ⟨_, rfl⟩
    obtain ⟨n2, hn2⟩ : ∃ n, RD.jobs.length = n := ⟨_, rfl⟩
    rw [show k0.cells.length = n1 from by rw [← hn1]; exact HR2.out.symm, show RD.jobs.length = n2 from hn2] at kE3
    have HN1 := Lib.hid hn1
    have HN2 := Lib.hid hn2
    have hs23 := hb3.size
    have B3 : Below w.heap.size w w3 := (B2.trans (b3.mono (by omega))).trans (hb3.mono (by omega))
    replace kA := kA.below_ hb3 (by omega)
    replace kB := kB.below_ hb3 (by omega)
    replace oJ := oJ.base_ (base' := w1.heap.size) (by omega)
    clear kE hn1 hn2 o1 o2 o13 o23 b3 hb3 hb2
    rw [show jbV ⟨yw, ys, yf, ⟨y0_, y1_, y2_, y3_, y4_, y5_, y6_, y7_⟩⟩ = .agg (zkj yw ys yf y0_ y1_ y2_ y3_ y4_ y5_ y6_ y7_).toArray from rfl]
    obtain ⟨X4, hX4⟩ : ∃ V, w3.alloc (.cells (zkj yw ys yf y0_ y1_ y2_ y3_ y4_ y5_ y6_ y7_).toArray 115) = V := ⟨_, rfl⟩
    have kJ := za hX4
    have b4 := zab hX4
    have zE3 := kE3.lt
    have zA3 := kA.lt
    have zB3 := kB.lt
    go_wp2_with fail
    (try rw [hX4])
    clear hX4
    obtain ⟨cv, hcv⟩ : ∃ V, X4.drew = V := ⟨_, rfl⟩
    have b5 : Below X4.heap.size X4 cv := by rw [← hcv]; exact (Below.refl _ _).drew
    have b45 := zbt b4 b5
    have kE := kE3.below_ b45 zE3
    replace kA := kA.below_ b45 zA3
    replace kB := kB.below_ b45 zB3
    replace kJ := kJ.below_ b5 kJ.lt
    replace oA := oA.ext b45
    replace oJ := oJ.ext b45
    have cb := zbt B3 b45
    have cs : w3.heap.size < cv.heap.size := kJ.lt
    have hsw := B1.size
    have hsx := BX.size
    have hS_of : ∀ {V : World}, Blk V w2.heap.size 31 #[.slice A1 n1 c1, .slice A5 n2 c5, .int .i64 k0.room] → Blk V w3.heap.size 115 (zkj yw ys yf y0_ y1_ y2_ y3_ y4_ y5_ y6_ y7_).toArray → (V.cell? ⟨w2.heap.size, 0, none⟩ = some (.slice A1 n1 c1) ∧ V.cell? ⟨w2.heap.size, 1, none⟩ = some (.slice A5 n2 c5) ∧ V.cell? ⟨w2.heap.size, 2, none⟩ = some (.int .i64 k0.room) ∧ V.cell? ⟨w3.heap.size, 0, none⟩ = some (.bool yw) ∧ V.cell? ⟨w3.heap.size, 1, none⟩ = some (.int .i64 ys) ∧ V.cell? ⟨w3.heap.size, 2, none⟩ = some (.int .i64 yf) ∧ V.cell? ⟨w3.heap.size, 3, none⟩ = some (.int .u64 y0_) ∧ V.cell? ⟨w3.heap.size, 4, none⟩ = some (.int .u64 y1_) ∧ V.cell? ⟨w3.heap.size, 5, none⟩ = some (.int .u64 y2_) ∧ V.cell? ⟨w3.heap.size, 6, none⟩ = some (.int .u64 y3_) ∧ V.cell? ⟨w3.heap.size, 7, none⟩ = some (.int .u64 y4_) ∧ V.cell? ⟨w3.heap.size, 8, none⟩ = some (.int .u64 y5_) ∧ V.cell? ⟨w3.heap.size, 9, none⟩ = some (.int .u64 y6_) ∧ V.cell? ⟨w3.heap.size, 10, none⟩ = some (.int .u64 y7_)) := fun h1 h2 => ⟨by simpa using h1.cell_ 0, by simpa using h1.cell_ 1, by simpa using h1.cell_ 2, by simpa using h2.cell_ 0, by simpa using h2.cell_ 1, by simpa using h2.cell_ 2, by simpa using h2.cell_ 3, by simpa using h2.cell_ 4, by simpa using h2.cell_ 5, by simpa using h2.cell_ 6, by simpa using h2.cell_ 7, by simpa using h2.cell_ 8, by simpa using h2.cell_ 9, by simpa using h2.cell_ 10⟩
    have hS := hS_of kE kJ
    refine wp_region_held_drew (S := fun V => V.cell? ⟨w2.heap.size, 0, none⟩ = some (.slice A1 n1 c1) ∧ V.cell? ⟨w2.heap.size, 1, none⟩ = some (.slice A5 n2 c5) ∧ V.cell? ⟨w2.heap.size, 2, none⟩ = some (.int .i64 k0.room) ∧ V.cell? ⟨w3.heap.size, 0, none⟩ = some (.bool yw) ∧ V.cell? ⟨w3.heap.size, 1, none⟩ = some (.int .i64 ys) ∧ V.cell? ⟨w3.heap.size, 2, none⟩ = some (.int .i64 yf) ∧ V.cell? ⟨w3.heap.size, 3, none⟩ = some (.int .u64 y0_) ∧ V.cell? ⟨w3.heap.size, 4, none⟩ = some (.int .u64 y1_) ∧ V.cell? ⟨w3.heap.size, 5, none⟩ = some (.int .u64 y2_) ∧ V.cell? ⟨w3.heap.size, 6, none⟩ = some (.int .u64 y3_) ∧ V.cell? ⟨w3.heap.size, 7, none⟩ = some (.int .u64 y4_) ∧ V.cell? ⟨w3.heap.size, 8, none⟩ = some (.int .u64 y5_) ∧ V.cell? ⟨w3.heap.size, 9, none⟩ = some (.int .u64 y6_) ∧ V.cell? ⟨w3.heap.size, 10, none⟩ = some (.int .u64 y7_)) (by kernel_rfl) ?_ (fun hHeld => ?_)
    ·(rw [hcv]; exact hS)
    rw [hcv]
    clear hcv
    refine zht 0 ?_
    refine zht 1 ?_
    refine zhr 2 (fun K hK => ?_)
    ·have ta0 : cv.cell? ⟨w.heap.size + 1, 0, none⟩ = some (.slice none 0 0) := by simpa using kA.cell_ 0
     obtain ⟨-, ta1, ta2⟩ := zc3 kA
     obtain ⟨ga0, ga1, ga2, -⟩ := zf kA
     have zkA := kA.lt
     go_simp
     obtain ⟨cx, hcx⟩ : ∃ V, setN cv (w.heap.size + 1) 0 [.slice A1 n1 c1, .slice A5 n2 c5, .int .i64 k0.room] = V := ⟨_, rfl⟩
     rw [show (World.setCell (World.setCell (World.setCell cv ⟨w.heap.size + 1, 0, none⟩ (.slice A1 n1 c1)) ⟨w.heap.size + 1, 1, none⟩ (.slice A5 n2 c5)) ⟨w.heap.size + 1, 2, none⟩ (.int .i64 k0.room)) = cx from hcx]
     have hgv : cv.grownBy cx (some (w.heap.size + 1)) := by rw [← hcx]; exact grown_setN _ _ _ _
     replace kA : Blk cx (w.heap.size + 1) 31 #[.slice A1 n1 c1, .slice A5 n2 c5, .int .i64 k0.room] := by rw [← hcx]; exact blk_setN kA _ rfl
     clear hcx ta0 ga0 ta1 ga1 ta2 ga2
     replace kB := kB.kept hgv (by simp)
     replace kE := kE.kept hgv (by simp; omega)
     replace kJ := kJ.kept hgv (by simp; omega)
     replace oA := oA.grown hgv (by omega)
     replace oJ := oJ.grown hgv (by omega)
     replace cb := below_grownB cb hgv (by omega) (Nat.le_refl _)
     replace cs : w3.heap.size < cx.heap.size := Nat.lt_of_lt_of_le cs hgv.size
     replace hS := hS_of kE kJ
     clear hgv zkA
     obtain ⟨cv, rfl⟩ : ∃ V, V = cx := ⟨_, rfl⟩
     refine hK.out _ _ (by exact hS) fun hHeld => ?_
     clear hK K
     (try simp only [Act.put, zy0, zy1, zy2])
     refine zhr 3 (fun K hK => ?_)
     ·have tb0 : cv.cell? ⟨w.heap.size + 2, 0, none⟩ = some (.bool false) := by simpa using kB.cell_ 0
      obtain ⟨-, tb1, tb2, tb3, tb4, tb5, tb6, tb7, tb8, tb9, tb10⟩ := zc11 kB
      obtain ⟨gb0, gb1, gb2, gb3, gb4, gb5, gb6, gb7, gb8, gb9, gb10, -⟩ := zf kB
      have zkB := kB.lt
      go_simp
      obtain ⟨cx, hcx⟩ : ∃ V, setN cv (w.heap.size + 2) 0 (zkj yw ys yf y0_ y1_ y2_ y3_ y4_ y5_ y6_ y7_) = V := ⟨_, rfl⟩
      rw [zs11 hcx]
      have hgv : cv.grownBy cx (some (w.heap.size + 2)) := by rw [← hcx]; exact grown_setN _ _ _ _
      replace kB : Blk cx (w.heap.size + 2) 115 (zkj yw ys yf y0_ y1_ y2_ y3_ y4_ y5_ y6_ y7_).toArray := by rw [← hcx]; exact blk_setN kB _ rfl
      clear hcx tb0 gb0 tb1 gb1 tb2 gb2 tb3 gb3 tb4 gb4 tb5 gb5 tb6 gb6 tb7 gb7 tb8 gb8 tb9 gb9 tb10 gb10
      replace kA := kA.kept hgv (by simp)
      replace kE := kE.kept hgv (by simp; omega)
      replace kJ := kJ.kept hgv (by simp; omega)
      replace oA := oA.grown hgv (by omega)
      replace oJ := oJ.grown hgv (by omega)
      replace cb := below_grownB cb hgv (by omega) (Nat.le_refl _)
      replace cs : w3.heap.size < cx.heap.size := Nat.lt_of_lt_of_le cs hgv.size
      replace hS := hS_of kE kJ
      clear hgv zkB
      obtain ⟨cv, rfl⟩ : ∃ V, V = cx := ⟨_, rfl⟩
      refine hK.out _ _ (by exact hS) fun hHeld => ?_
      clear hK K
      (try simp only [Act.put, zy0, zy1, zy2])
      refine zht 4 ?_
      refine wpAnyH_done (by kernel_rfl) ?_ _
      go_wp2_with fail
      obtain ⟨rp0, rp1, rp2⟩ := zc3 kA
      refine bodyPost_ret (by simp [results, Tryz.results137, go_sem, rp0, rp1, rp2, zc11 kB] <;> rfl) rfl ?_
      exact ⟨A1, c1, A5, c5, by simp only [dkV, HN1.out, HN2.out, HR1.out]; rfl, oA.base_ (by omega), oJ.base_ (by omega), cb⟩
 ·have HE : Hid (cmpD k0 i = (.zero, .zero, z)) := by show _ = _; unfold cmpD; rw [hz, if_pos z0]
  have zb : (z != 0) = true := by simpa using z0
  rw [HE.out]
  clear hz z0
  obtain ⟨q0, q1, q2⟩ := zc3 kD
  have zD := kD.lt
  go_enter Tryz.func137, Tryz.ntmps137
  go_wp2_with fail
  (try rw [hX])
  clear q0 q1 q2 zD
  refine (dCheck_any A B c d k0 X (HB.out.ext BX) (by omega) (by omega) HZ.out).mono ?_
  rintro e1 w1 ⟨rfl, hb1⟩
  have B1 := zbt BX hb1
  replace kD := kD.below_ hb1 kD.lt
  replace kA := kA.below_ hb1 kA.lt
  replace kB := kB.below_ hb1 kB.lt
  have zD := kD.lt
  have zA := kA.lt
  have zB := kB.lt
  obtain ⟨q0, q1, q2⟩ := zc3 kD
  obtain ⟨ta0, ta1, ta2⟩ := zc3 kA
  obtain ⟨ga0, ga1, ga2, -⟩ := zf kA
  obtain ⟨tb0, tb1, tb2, tb3, tb4, tb5, tb6, tb7, tb8, tb9, tb10⟩ := zc11 kB
  obtain ⟨gb0, gb1, gb2, gb3, gb4, gb5, gb6, gb7, gb8, gb9, gb10, -⟩ := zf kB
  go_wp2_with fail
  obtain ⟨W9, hW9⟩ : ∃ V, setN (setN w1 (w.heap.size + 1) 0 [.slice none 0 0, .slice none 0 0, .int .i64 0]) (w.heap.size + 2) 0 (zkj false 0 0 0 0 0 0 0 0 0 0) = V := ⟨_, rfl⟩
  rw [zu hW9]
  have kA9 : Blk W9 (w.heap.size + 1) 31 #[.slice none 0 0, .slice none 0 0, .int .i64 0] := by rw [← hW9]; exact (blk_setN kA _ rfl).kept (grown_setN _ _ _ _) (by simp)
  have kB9 : Blk W9 (w.heap.size + 2) 115 (zkj false 0 0 0 0 0 0 0 0 0 0).toArray := by rw [← hW9]; exact blk_setN (kB.kept (grown_setN _ _ _ _) (by simp)) _ rfl
  have b9 : Below w.heap.size w W9 := by rw [← hW9]; exact below_setN (below_setN B1 (by omega) _) (by omega) _
  clear hW9
  obtain ⟨rp0, rp1, rp2⟩ := zc3 kA9
  refine bodyPost_ret (by simp [results, Tryz.results137, go_sem, rp0, rp1, rp2, zc11 kB9] <;> rfl) rfl ?_
  exact ⟨none, 0, none, 0, by rfl, OwnE.nil, OwnE.nil, b9⟩
def cnW (n : Int) : Ct := ⟨n % 1048576, n % 1048576 / 3, 7, n % 1048576 % 5, 0, 0, 0, 0⟩
def actW (s : Swp) (n : Int) : Swp × Int :=
 let m := n % 1073741824
 let k := m % 8
 let slot := m / 8 % 6
 let frame := m / 48 % 40
 let proc := 1 + m / 1920 % 4
 if k = 0 ∨ k = 1 then ((wrtW s frame (1 + m / 7680 % 3) (cnW m)).1, (wrtW s frame (1 + m / 7680 % 3) (cnW m)).2.2) else if k = 2 then redW s slot frame proc else if k = 3 then claW s slot proc else
 if k = 4 then ((kilW s proc).1, (kilW s proc).2.2) else if k = 5 then addW s slot else if k = 6 then ((unrW s slot).1, (unrW s slot).2.2) else
 if 0 < s.dk.jobs.length then ((cmpW s (m / 8 % s.dk.jobs.length)).1, (cmpW s (m / 8 % s.dk.jobs.length)).2.2) else (s, 0)
def stepW (s : Swp) (n : Int) : Swp := if (actW s n).2 ≠ 0 then s else (actW s n).1
def runW (s : Swp) (nums : List Int) : Swp := nums.foldl stepW s
def madeW (nums : List Int) : Swp := runW (newW 6 4 2).1 (nums.take 50)
theorem red_zero {s : Swp} (h : OkS s) {n f p : Int} (h0 : (redW s n f p).2 = 0) : frW f = true ∧ askW s n p = 0 ∧ bsyT s.sl n.toNat = false ∧ usW s f = false ∧ (s.dk.jobs.length : Int) < s.dk.room := by
 unfold redW at h0
 rw [if_neg (by rw [chkW_ok.2 h]; simp)] at h0
 cases h1 : frW f with
 | false => rw [h1] at h0; simp at h0
 | true =>
  rw [h1, if_neg (by simp)] at h0
  by_cases h2 : askW s n p = 0
  ·rw [if_neg (by simpa using h2)] at h0
   cases h3 : bsyT s.sl n.toNat with
   | true => rw [h3] at h0; simp at h0
   | false =>
    cases h4 : usW s f with
    | true => rw [h3, h4] at h0; simp at h0
    | false =>
     rw [h3, h4, if_neg (by simp)] at h0
     by_cases h5 : s.dk.room ≤ s.dk.jobs.length
     ·rw [if_pos h5] at h0; simp at h0
     ·exact ⟨rfl, h2, rfl, rfl, by omega⟩
  ·rw [if_pos h2] at h0; exact absurd h0 h2
theorem wrt_zero {s : Swp} (h : OkS s) {f r : Int} {c : Ct} (h0 : (wrtW s f r c).2.2 = 0) : frW f = true ∧ (1 ≤ r ∧ r ≤ 512) ∧ usW s f = false ∧ hinW s = [] := by
 unfold wrtW at h0
 rw [if_neg (by rw [chkW_ok.2 h]; simp)] at h0
 cases h1 : frW f with
 | false => rw [h1] at h0; simp at h0
 | true =>
  rw [h1, if_neg (by simp)] at h0
  by_cases h2 : r < 1 ∨ 512 < r
  ·rw [if_pos h2] at h0; simp at h0
  ·rw [if_neg h2] at h0
   cases h3 : usW s f with
   | true => rw [h3] at h0; simp at h0
   | false =>
    rw [h3, if_neg (by simp)] at h0
    by_cases h4 : hinW s = []
    ·exact ⟨rfl, by omega, rfl, h4⟩
    ·rw [if_pos h4] at h0; simp at h0
theorem cla_zero {s : Swp} (h : OkS s) {n p : Int} (h0 : (claW s n p).2 = 0) : askW s n p = 0 ∧ ∃ (i : Nat) (x : Wr), s.wr.findIdx? (fun v => decide (v.1 = n)) = some i ∧ s.wr[i]? = some x ∧ x.2.2 = 0 := by
 unfold claW at h0
 rw [if_neg (by rw [chkW_ok.2 h]; simp)] at h0
 by_cases h2 : askW s n p = 0
 ·rw [if_neg (by simpa using h2)] at h0
  cases h3 : s.wr.findIdx? (fun v => decide (v.1 = n)) with
  | none => rw [h3] at h0; simp at h0
  | some i =>
   rw [h3] at h0
   dsimp only at h0
   obtain ⟨hi, _⟩ := List.findIdx?_eq_some_iff_getElem.1 h3
   refine ⟨h2, i, s.wr[i], rfl, List.getElem?_eq_getElem hi, ?_⟩
   rw [List.getD_eq_getElem?_getD, List.getElem?_eq_getElem hi, Option.getD_some] at h0
   by_cases h4 : s.wr[i].2.2 = 0
   ·exact h4
   ·rw [if_pos h4] at h0; simp at h0
 ·rw [if_pos h2] at h0; exact absurd h0 h2
structure Inv6 (s : Swp) : Prop where
 ok : OkS s
 cap : s.cap = 2
 size : s.po.size = 4
 len : s.sl.refs.length = 6
theorem Inv6.cells {s : Swp} (h : Inv6 s) : s.dk.cells.length = 6 := by rw [← h.ok.len]; exact h.len
theorem step_cases {s : Swp} (h : Inv6 s) (n : Int) {Q : Swp → Prop} (hs : Q s)
  (hw : ∀ (f r : Int) (c : Ct) (i : Nat) (d : Int) (l : List Int), 0 ≤ f → f < 40 → 1 ≤ r → r ≤ 3 → i < s.sl.refs.length → bsyT s.sl i = false → refT s.sl i = 0 → s.po.free = d :: l → usW s f = false →
   OkS ⟨s.cap, witT s.sl i r true, s.wr ++ [((i : Int), f, 0)], s.rd, s.desc ++ [d], ⟨s.dk.cells, s.dk.jobs ++ [⟨true, i, f, c⟩], s.dk.room⟩, ⟨s.po.size, l⟩⟩ → Q ⟨s.cap, witT s.sl i r true, s.wr ++ [((i : Int), f, 0)], s.rd, s.desc ++ [d], ⟨s.dk.cells, s.dk.jobs ++ [⟨true, i, f, c⟩], s.dk.room⟩, ⟨s.po.size, l⟩⟩)
  (hr : ∀ (i f p d : Int) (l : List Int), 0 ≤ i → i < 6 → 0 ≤ f → f < 40 → 1 ≤ p → p ≤ 4 → bsyT s.sl i.toNat = false → refT s.sl i.toNat ≠ 0 → s.po.free = d :: l → usW s f = false →
   OkS ⟨s.cap, witT s.sl i.toNat (refT s.sl i.toNat) true, s.wr, s.rd ++ [(i, f, p)], s.desc ++ [d], ⟨s.dk.cells, s.dk.jobs ++ [⟨false, i, f, .zero⟩], s.dk.room⟩, ⟨s.po.size, l⟩⟩ → Q ⟨s.cap, witT s.sl i.toNat (refT s.sl i.toNat) true, s.wr, s.rd ++ [(i, f, p)], s.desc ++ [d], ⟨s.dk.cells, s.dk.jobs ++ [⟨false, i, f, .zero⟩], s.dk.room⟩, ⟨s.po.size, l⟩⟩)
  (hv : ∀ (wr rd : List Wr), OkS { s with wr := wr, rd := rd } → Q { s with wr := wr, rd := rd })
  (ht : ∀ (i : Nat) (r : Int), i < s.sl.refs.length → (r = refT s.sl i + 1 ∨ r = refT s.sl i - 1 ∧ refT s.sl i ≠ 0) → OkS { s with sl := witT s.sl i r (bsyT s.sl i) } → Q { s with sl := witT s.sl i r (bsyT s.sl i) })
  (hc : ∀ (k : Int) (j : Jb), 0 ≤ k → s.dk.jobs[k.toNat]? = some j → OkS (dnS s k j) → Q (dnS s k j)) : Q (stepW s n) := by
 unfold stepW
 by_cases h0 : (actW s n).2 = 0
 ·rw [if_neg (by simpa using h0)]
  have hl := h.len
  unfold actW at h0 ⊢
  dsimp only at h0 ⊢
  generalize n % 1073741824 = m at h0 ⊢
  by_cases k0 : m % 8 = 0 ∨ m % 8 = 1
  ·rw [if_pos k0] at h0 ⊢
   dsimp only at h0 ⊢
   obtain ⟨z1, z2, z3, z4⟩ := wrt_zero h.ok h0
   obtain ⟨i, d, l, hi, hb, hrr, hd, he, hok⟩ := wrt_ok h.ok (cnW m) z1 z2 z3 z4
   rw [he]
   exact hw _ _ _ i d l (by omega) (by omega) (by omega) (by omega) hi hb hrr hd z3 hok
  ·rw [if_neg k0] at h0 ⊢
   by_cases k2 : m % 8 = 2
   ·rw [if_pos k2] at h0 ⊢
    obtain ⟨z1, z2, z3, z4, z5⟩ := red_zero h.ok h0
    obtain ⟨d, l, hd, he, hok⟩ := red_ok h.ok z1 z2 z3 z4 z5
    rw [he]
    obtain ⟨_, _, a6⟩ := askW_zero.1 z2
    exact hr _ _ _ d l (by omega) (by omega) (by omega) (by omega) (by omega) (by omega) z3 a6 hd z4 hok
   ·rw [if_neg k2] at h0 ⊢
    by_cases k3 : m % 8 = 3
    ·rw [if_pos k3] at h0 ⊢
     obtain ⟨z1, i, x, z2, z3, z4⟩ := cla_zero h.ok h0
     obtain ⟨he, hok⟩ := cla_ok h.ok z1 z2 z3 z4
     rw [he]
     exact hv _ _ hok
    ·rw [if_neg k3] at h0 ⊢
     by_cases k4 : m % 8 = 4
     ·rw [if_pos k4] at h0 ⊢
      obtain ⟨he, hok⟩ := kil_ok h.ok (p := 1 + m / 1920 % 4) (by omega)
      rw [he]
      exact hv _ _ hok
     ·rw [if_neg k4] at h0 ⊢
      by_cases k5 : m % 8 = 5
      ·rw [if_pos k5] at h0 ⊢
       obtain ⟨z1, z2, he, hok⟩ := add_ok h.ok h0
       rw [he] at hok ⊢
       exact ht _ _ (by omega) (.inl rfl) hok
      ·rw [if_neg k5] at h0 ⊢
       by_cases k6 : m % 8 = 6
       ·rw [if_pos k6] at h0 ⊢
        dsimp only at h0 ⊢
        obtain ⟨z1, z2, he, hok⟩ := unr_ok h.ok h0
        rw [he] at hok ⊢
        exact ht _ _ (by omega) (.inr ⟨rfl, z2⟩) hok
       ·rw [if_neg k6] at h0 ⊢
        by_cases k7 : 0 < s.dk.jobs.length
        ·rw [if_pos k7] at h0 ⊢
         have hlt : m / 8 % (s.dk.jobs.length : Int) < s.dk.jobs.length := Int.emod_lt_of_pos _ (by omega)
         have hge : 0 ≤ m / 8 % (s.dk.jobs.length : Int) := Int.emod_nonneg _ (by omega)
         generalize m / 8 % (s.dk.jobs.length : Int) = k at h0 hlt hge ⊢
         obtain ⟨he, hok⟩ := cmp_ok h.ok hge (List.getElem?_eq_getElem (l := s.dk.jobs) (i := k.toNat) (by omega))
         rw [he]
         exact hc _ _ hge (List.getElem?_eq_getElem (by omega)) hok
        ·rw [if_neg k7]
         exact hs
 ·rw [if_pos h0]
  exact hs
theorem step_inv {s : Swp} (h : Inv6 s) (n : Int) : Inv6 (stepW s n) := by
 refine step_cases h n h ?_ ?_ ?_ ?_ ?_
 ·intro f r c i d l _ _ _ _ _ _ _ _ _ hok
  exact ⟨hok, h.cap, h.size, by simpa [witT] using h.len⟩
 ·intro i f p d l _ _ _ _ _ _ _ _ _ _ hok
  exact ⟨hok, h.cap, h.size, by simpa [witT] using h.len⟩
 ·intro wr rd hok
  exact ⟨hok, h.cap, h.size, h.len⟩
 ·intro i r _ _ hok
  exact ⟨hok, h.cap, h.size, by simpa [witT] using h.len⟩
 ·intro k j h0 hj hok
  obtain ⟨_, _, _, hds, _⟩ := cmp_parts h.ok h0 hj
  obtain ⟨_, g2, _⟩ := gvP_ok h.ok.po hds
  exact ⟨hok, h.cap, by unfold dnS; dsimp only; rw [g2]; exact h.size, by simpa [dnS, witT] using h.len⟩
theorem new_inv : Inv6 (newW 6 4 2).1 := ⟨chkW_ok.1 (by decide), by decide, by decide, by decide⟩
theorem run_inv {s : Swp} (h : Inv6 s) : ∀ (nums : List Int), Inv6 (runW s nums)
 | [] => h
 | n :: nums => by
  show Inv6 (runW (stepW s n) nums)
  exact run_inv (step_inv h n) nums
theorem made_inv (nums : List Int) : Inv6 (madeW nums) := run_inv new_inv _
theorem jobs_len {s : Swp} (h : OkS s) : s.dk.jobs.length = s.wr.length + s.rd.length := by
 have h1 := congrArg List.length h.mw
 have h2 := congrArg List.length h.mr
 unfold jvs vvs at h1 h2
 simp only [List.length_map] at h1 h2
 have h3 : ∀ l : List Jb, (l.filter fun j => j.wr == true).length + (l.filter fun j => j.wr == false).length = l.length := by
  intro l
  induction l with
  | nil => rfl
  | cons j l ih => cases hj : j.wr <;> simp [hj] at ih ⊢ <;> omega
 rw [← h1, ← h2]
 exact (h3 s.dk.jobs).symm
theorem dn_len {s : Swp} (h : OkS s) {n : Int} {j : Jb} (hj : s.dk.jobs[n.toNat]? = some j) : (dnS s n j).dk.jobs.length + 1 = s.dk.jobs.length := by
 obtain ⟨hi, _⟩ := List.getElem?_eq_some_iff.1 hj
 unfold dnS
 dsimp only
 rw [← erase_out h.dk.apart hj, List.length_eraseIdx_of_lt hi]
 omega
def finR (s : Swp) (i : Nat) : Int := if (wtW s).any (fun x => decide (x.2 = i)) then refT s.sl i - 1 else refT s.sl i
def finC (s : Swp) (i : Nat) : Ct := match s.dk.jobs.find? (fun j => j.wr && decide (j.slot = (i : Int))) with
 | some j => j.data
 | none => s.dk.cells.getD i .zero
def finS (s : Swp) : Swp := ⟨s.cap, ⟨(List.range s.sl.refs.length).map (finR s), List.replicate s.sl.refs.length false⟩, [], [], [], ⟨(List.range s.dk.cells.length).map (finC s), [], s.dk.room⟩, ⟨s.po.size, rngI s.po.size.toNat⟩⟩
theorem prc_any {s : Swp} (h : OkS s) {j : Jb} (hj : j ∈ s.dk.jobs) : (wtW s).any (fun x => decide (x.2 = j.slot)) = !decide (prcW s j = 0) := by
 rw [Bool.eq_iff_iff, List.any_eq_true]
 simp only [decide_eq_true_eq, Bool.not_eq_true', decide_eq_false_iff_not]
 constructor
 ·rintro ⟨x, hx, e⟩ h0
  obtain ⟨n, hn⟩ := List.getElem?_of_mem hj
  obtain ⟨_, _, _, _, _, _, _, _, hwt, hrd⟩ := cmp_parts h (n := n) (by omega) (by simpa using hn)
  rw [wtW_eq] at hx
  cases hw : j.wr with
  | true =>
   obtain ⟨_, v, hv, e1, e2, e3⟩ := hwt hw
   rcases List.mem_append.1 hx with hx | hx
   ·obtain ⟨u, hu, f1, f2, f3⟩ := wtL_mem.1 hx
    have hr : remS s.wr u.1 = (s.wr.filter (fun z => decide (z.1 ≠ u.1)), u, 0) := by
     obtain ⟨k, hk⟩ := List.getElem?_of_mem hu
     exact remS_at h.wr hk
    rw [f2, e, e2] at hr
    have : v = u := by injection hr with _ hr; injection hr
    subst this
    omega
   ·obtain ⟨u, hu, f1, f2, f3⟩ := wtL_mem.1 hx
    exact other_view h.dk.apart h.mr hj (by rw [hw]; simp) u hu (f2.trans e)
  | false =>
   obtain ⟨_, i, v, hv, e2, _, e3⟩ := hrd hw
   rcases List.mem_append.1 hx with hx | hx
   ·obtain ⟨u, hu, f1, f2, f3⟩ := wtL_mem.1 hx
    exact other_view h.dk.apart h.mw hj (by rw [hw]; simp) u hu (f2.trans e)
   ·obtain ⟨u, hu, f1, f2, f3⟩ := wtL_mem.1 hx
    obtain ⟨hi, hp, _⟩ := List.findIdx?_eq_some_iff_getElem.1 e2
    obtain ⟨_, hv'⟩ := List.getElem?_eq_some_iff.1 hv
    simp only [decide_eq_true_eq] at hp
    rw [hv'] at hp
    have hap := vvs_apart h.dk.apart h.mr
    obtain ⟨b, hb, rfl⟩ := List.mem_iff_getElem.1 hu
    have hh := List.pairwise_iff_getElem.1 hap
    have hib : i = b := by
     rcases Nat.lt_trichotomy i b with h1 | h1 | h1
     ·have := (hh i b hi hb h1).1
      rw [hv', hp] at this
      exact absurd (f2.trans e).symm this
     ·exact h1
     ·have := (hh b i hb hi h1).1
      rw [hv', hp] at this
      exact absurd (f2.trans e) this
    subst hib
    rw [hv'] at f1
    omega
 ·intro h0
  exact ⟨_, prc_of h0, rfl⟩
theorem find_filter {α : Type} {p q : α → Bool} : ∀ {l : List α}, (∀ x ∈ l, p x = true → q x = true) → (l.filter q).find? p = l.find? p
 | [], _ => rfl
 | x :: l, h => by
  have ih := find_filter (p := p) (q := q) (l := l) fun y hy => h y (by simp [hy])
  cases hp : p x with
  | true => rw [List.filter_cons_of_pos (h x (by simp) hp), List.find?_cons, List.find?_cons, hp]
  | false =>
   cases hq : q x with
   | true => rw [List.filter_cons_of_pos hq, List.find?_cons, List.find?_cons, hp]; exact ih
   | false => rw [List.filter_cons_of_neg (by simp [hq]), List.find?_cons, hp]; exact ih
theorem any_filter' {α : Type} {p q : α → Bool} {l : List α} (h : ∀ x ∈ l, p x = true → q x = true) : (l.filter q).any p = l.any p := by
 rw [Bool.eq_iff_iff, List.any_eq_true, List.any_eq_true]
 constructor
 ·rintro ⟨x, hx, e⟩; exact ⟨x, (List.mem_filter.1 hx).1, e⟩
 ·rintro ⟨x, hx, e⟩; exact ⟨x, List.mem_filter.2 ⟨hx, h x hx e⟩, e⟩
theorem fin_dn {s : Swp} (h : OkS s) {n : Int} {j : Jb} (h0 : 0 ≤ n) (hj : s.dk.jobs[n.toNat]? = some j) : finS (dnS s n j) = finS s := by
 obtain ⟨hsl, _, _, hds, _⟩ := cmp_parts h h0 hj
 obtain ⟨_, g2, _⟩ := gvP_ok h.po hds
 have hjm : j ∈ s.dk.jobs := List.mem_of_getElem? hj
 have hl := h.len
 have hw : wtW (dnS s n j) = (wtW s).filter fun x => decide (x.2 ≠ j.slot) := by
  rw [wtW_eq, wtW_eq, List.filter_append]
  unfold dnS
  dsimp only
  rw [wtL_out, wtL_out]
 have hR : ∀ i, finR (dnS s n j) i = finR s i := by
  intro i
  unfold finR
  rw [hw]
  have hr : refT (dnS s n j).sl i = if i = j.slot.toNat then (if prcW s j = 0 then refT s.sl j.slot.toNat else refT s.sl j.slot.toNat - 1) else refT s.sl i := by
   unfold dnS
   dsimp only
   rw [refT_wit (by omega)]
  rw [hr]
  by_cases e : i = j.slot.toNat
  ·subst e
   have e1 : ((wtW s).filter fun x => decide (x.2 ≠ j.slot)).any (fun x => decide (x.2 = (j.slot.toNat : Int))) = false := by
    rw [List.any_eq_false]
    intro x hx
    have := (List.mem_filter.1 hx).2
    simp only [decide_eq_true_eq] at this ⊢
    omega
   have e2 : (wtW s).any (fun x => decide (x.2 = (j.slot.toNat : Int))) = !decide (prcW s j = 0) := by
    rw [← prc_any h hjm, show (j.slot.toNat : Int) = j.slot by omega]
   rw [e1, e2, if_pos rfl]
   by_cases hp : prcW s j = 0 <;> simp [hp]
  ·rw [any_filter' fun x _ hx => ?_, if_neg e]
   simp only [decide_eq_true_eq] at hx ⊢
   omega
 have hC : ∀ i, i < s.dk.cells.length → finC (dnS s n j) i = finC s i := by
  intro i hi
  unfold finC
  have ej : (dnS s n j).dk.jobs = s.dk.jobs.filter fun k => decide (k.slot ≠ j.slot) := rfl
  have ec : (dnS s n j).dk.cells = cmC s.dk j := rfl
  rw [ej, ec]
  by_cases e : (i : Int) = j.slot
  ·have e1 : (s.dk.jobs.filter fun k => decide (k.slot ≠ j.slot)).find? (fun j => j.wr && decide (j.slot = (i : Int))) = none := by
    rw [List.find?_eq_none]
    intro x hx
    have := (List.mem_filter.1 hx).2
    simp only [decide_eq_true_eq, Bool.and_eq_true, not_and] at this ⊢
    intro _
    omega
   rw [e1]
   dsimp only
   unfold cmC
   cases hw : j.wr with
   | true =>
    have e2 : s.dk.jobs.find? (fun j => j.wr && decide (j.slot = (i : Int))) = some j := by
     cases hf : s.dk.jobs.find? (fun j => j.wr && decide (j.slot = (i : Int))) with
     | none =>
      have := List.find?_eq_none.1 hf j hjm
      simp [hw] at this
      omega
     | some k =>
      have h1 := List.find?_some hf
      simp only [Bool.and_eq_true, decide_eq_true_eq] at h1
      rw [job_eq h.dk.apart (List.mem_of_find?_eq_some hf) hjm (h1.2.trans e)]
    rw [e2, if_pos rfl, ← e]
    simp [List.getD_eq_getElem?_getD, hi]
   | false =>
    have e2 : s.dk.jobs.find? (fun j => j.wr && decide (j.slot = (i : Int))) = none := by
     rw [List.find?_eq_none]
     intro x hx
     simp only [decide_eq_true_eq, Bool.and_eq_true, not_and]
     intro hxw hxs
     have := job_eq h.dk.apart hx hjm (hxs.trans e)
     subst this
     rw [hw] at hxw
     cases hxw
    rw [e2]
    rfl
  ·rw [find_filter fun x _ hx => ?_]
   ·have hcell : (cmC s.dk j).getD i .zero = s.dk.cells.getD i .zero := by
     unfold cmC
     split
     ·rw [List.getD_eq_getElem?_getD, List.getElem?_set_ne (by omega), ← List.getD_eq_getElem?_getD]
     ·rfl
    rw [hcell]
   ·simp only [decide_eq_true_eq, Bool.and_eq_true] at hx ⊢
    omega
 have e1 : (dnS s n j).sl.refs.length = s.sl.refs.length := by simp [dnS, witT]
 have e2 : (dnS s n j).dk.cells.length = s.dk.cells.length := by simp [dnS, cmC_len]
 have e3 : (dnS s n j).po.size = s.po.size := g2
 have e4 : (dnS s n j).cap = s.cap := rfl
 have e5 : (dnS s n j).dk.room = s.dk.room := rfl
 unfold finS
 rw [e1, e2, e3, e4, e5, List.map_congr_left (fun i _ => hR i), List.map_congr_left (fun i hi => hC i (List.mem_range.1 hi))]
theorem fin_none {s : Swp} (h : OkS s) (hj : s.dk.jobs = []) : finS s = s := by
 have hlen := jobs_len h
 rw [hj] at hlen
 have hwr : s.wr = [] := List.length_eq_zero_iff.1 (by simp at hlen; omega)
 have hrd : s.rd = [] := List.length_eq_zero_iff.1 (by simp at hlen; omega)
 have hdl := h.dlen
 rw [hj] at hdl
 have hde : s.desc = [] := List.length_eq_zero_iff.1 (by simpa using hdl)
 have hwt : wtW s = [] := by rw [wtW_eq, hwr, hrd]; rfl
 have htk : tknP s.po = [] := List.length_eq_zero_iff.1 (by rw [h.tlen, hde]; rfl)
 have h1 : (List.range s.sl.refs.length).map (finR s) = s.sl.refs := by
  refine List.ext_getElem (by simp) fun k a b => ?_
  simp only [List.getElem_map, List.getElem_range]
  unfold finR refT
  rw [hwt]
  simp [List.getD_eq_getElem?_getD, List.getElem?_eq_getElem b]
 have h2 : List.replicate s.sl.refs.length false = s.sl.busy := by
  refine List.ext_getElem (by simp [h.sl.blen]) fun k a b => ?_
  have hb := bsyT_eq h (i := k) (by have := h.sl.blen; omega)
  rw [hj] at hb
  unfold bsyT bsW at hb
  rw [List.getD_eq_getElem?_getD, List.getElem?_eq_getElem b] at hb
  simp only [List.getElem_replicate]
  exact hb.symm
 have h3 : (List.range s.dk.cells.length).map (finC s) = s.dk.cells := by
  refine List.ext_getElem (by simp) fun k a b => ?_
  simp only [List.getElem_map, List.getElem_range]
  unfold finC
  rw [hj]
  simp [List.getD_eq_getElem?_getD, List.getElem?_eq_getElem b]
 have h4 : rngI s.po.size.toNat = s.po.free := by
  refine asc_ext (rngI_asc _) h.po.asc fun x => ?_
  rw [rngI_mem]
  constructor
  ·intro hx
   by_cases hf : x ∈ s.po.free
   ·exact hf
   ·have := tknP_mem.2 ⟨(show 0 ≤ x ∧ x < s.po.size by omega), hf⟩
    rw [htk] at this
    cases this
  ·intro hx
   have := h.po.range x hx
   omega
 unfold finS
 rw [h1, h2, h3, h4, ← hj]
 obtain ⟨cap, ⟨refs, busy⟩, wr, rd, desc, ⟨cells, jobs, room⟩, ⟨size, free⟩⟩ := s
 simp only at *
 subst hwr hrd hde
 rfl
end Go.Proofs.YthijbipidbjpfaaGreatDoor
