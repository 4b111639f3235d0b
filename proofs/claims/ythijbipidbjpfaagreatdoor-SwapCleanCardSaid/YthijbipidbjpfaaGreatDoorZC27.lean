import Derived.Test.YthijbipidbjpfaaGreatDoorZC25
import Derived.Test.YthijbipidbjpfaaGreatDoorZC26
import Derived.Test.YthijbipidbjpfaaGreatDoorZC00
import Derived.Test.YthijbipidbjpfaaGreatDoorZC04
import Derived.Test.YthijbipidbjpfaaGreatDoorZC14
import Derived.Test.YthijbipidbjpfaaGreatDoorZC06
import Derived.Test.YthijbipidbjpfaaGreatDoorZC03
import Derived.ProofKit
import Derived.OpenShut
import Derived.Lib.SmallJoins
import Derived.Test.YthijbipidbjpfaaGreatDoorTie
import Derived.Test.YthijbipidbjpfaaGreatDoorCards
import Derived.Test.YthijbipidbjpfaaGreatDoorZC07
import Derived.LaidMore
import Derived.Stop.Joined
import Derived.ChangeSame
set_option linter.unusedSimpArgs false
set_option linter.unusedVariables false
set_option maxRecDepth 100000
set_option maxHeartbeats 8000000
namespace Go.Proofs.YthijbipidbjpfaaGreatDoor
open Go.RowKit Go.Maps
theorem SwO.farG {w : World} {base b o : Nat} {L : Lay} {s : Swp} {t : TypeId} {cs : Array Value} (h : SwO w base L s) (hb : Blk w b t cs) (ht : intE.e ≠ t ∧ boolE.e ≠ t ∧ wrE.e ≠ t ∧ rdE.e ≠ t ∧ ctE.e ≠ t ∧ jbE.e ≠ t) (vs : List Value) : SwO (setN w b o vs) base L s :=
 ⟨h.o0.farBN vs hb ht.1, h.o1.farBN vs hb ht.2.1, h.o2.lift fun o => o.farBN vs hb ht.2.2.1, h.o3.farBN vs hb ht.2.2.2.1, h.o4.farBN vs hb ht.1, h.o5.farBN vs hb ht.2.2.2.2.1, h.o6.farBN vs hb ht.2.2.2.2.2, h.o7.farBN vs hb ht.1, h.p0, h.p7⟩
theorem sv_at {sv : List Bool} {m : Nat} (h : sv.length = 6) (hm : m < 6) : sv[m]? = some (sv.getD m false) := by
 rw [List.getD_eq_getElem?_getD, List.getElem?_eq_getElem (by omega)]
 rfl
theorem sv_cell {w : World} {b m : Nat} {t : TypeId} {sv : List Bool} {y : Bool} (k : Blk w b t (sv.map Value.bool).toArray) (h : sv.length = 6) (hm : m < 6) (hy : sv.getD m false = y) : w.cell? ⟨b, m, none⟩ = some (.bool y) :=
 (k.cell_ m).trans (by rw [List.getElem?_toArray, List.getElem?_map, sv_at h hm, hy]; rfl)
theorem sv_set {w : World} {b m : Nat} {t : TypeId} {sv : List Bool} (k : Blk w b t (sv.map Value.bool).toArray) : Blk (setN w b m [.bool true]) b t ((sv.set m true).map Value.bool).toArray := by
 have h := k.set_ m (.bool true)
 have e : (sv.map Value.bool).toArray.setIfInBounds m (.bool true) = ((sv.set m true).map Value.bool).toArray := by simp [List.map_set]
 rw [e] at h
 exact h
theorem blk_setNo {w : World} {b c o : Nat} {T : TypeId} {cs : Array Value} (k : Blk w b T cs) (hc : b ≠ c) (l : List Value) : Blk (setN w c o l) b T cs := k.kept (grown_setN w c o l) (by simpa using hc)
theorem swapClean_walk (A : Option Addr) (c : Nat) (nums : List Int) (A' : Option Addr) (c' : Nat) (order : List Int) (w : World) (hn : Sl w (.int .i64) A nums) (_hwf : ∀ n ∈ nums, (Lit.int .i64 n).wf = true) (hln : nums.length ≤ 9223372036854775807)
  (hn' : Sl w (.int .i64) A' order) (_hwf' : ∀ n ∈ order, (Lit.int .i64 n).wf = true) (hln' : order.length ≤ 9223372036854775807) (hz : TZ w) :
  Calls Tryz.prog 10 #[.slice A nums.length c, .slice A' order.length c'] w fun e w' => e = .returned (.bool true) ∧ Below w.heap.size w w' := by
 have HTZ := Lib.hid hz
 have HW0 : 0 < w.heap.size := hz.pos
 have HN := Lib.hid hn
 have HN' := Lib.hid hn'
 clear hn hz _hwf _hwf' hn'
 obtain ⟨M, hM⟩ : ∃ M, madeW nums = M := ⟨_, rfl⟩
 have HI : Hid (Inv6 M) := by rw [← hM]; exact made_inv nums
 have HM := fun V hb => made_any A c nums V (HN.out.ext hb) hln (HTZ.out.ext HW0 hb)
 rw [hM] at HM
 replace HM := Lib.hid HM
 clear hM
 go_enter Tryz.func10, Tryz.ntmps10
 go_wp2_with fail
 refine (known_any w HTZ.out).mono ?_
 rintro e1 w1 ⟨rfl, hb1⟩
 go_wp2_with fail
 refine (HM.out w1 hb1).mono ?_
 rintro e2 w2 ⟨⟨a0, c0, a1, c1, a2, c2, a3, c3, a4, c4, a5, c5, a6, c6, a7, c7⟩, rfl, ho, hb2⟩
 unfold swV swC
 dsimp only
 go_upto_region 3 with fail
 obtain ⟨V0, hV⟩ : ∃ V, w2.alloc (.cells (zkx M a0 c0 a1 c1 a2 c2 a3 c3 a4 c4 a5 c5 a6 c6 a7 c7).toArray 35) = V := ⟨_, rfl⟩
 obtain ⟨Bs, hBe⟩ : ∃ B, w2.heap.size = B := ⟨_, rfl⟩
 have ks : Blk V0 Bs 35 (zkx M a0 c0 a1 c1 a2 c2 a3 c3 a4 c4 a5 c5 a6 c6 a7 c7).toArray := by rw [← hV, ← hBe]; exact Blk.new_ rfl rfl
 have hbV := zab hV
 have HO : Hid (SwO V0 w.heap.size ⟨a0, c0, a1, c1, a2, c2, a3, c3, a4, c4, a5, c5, a6, c6, a7, c7⟩ M) := (ho.base_ hb1.size).ext hbV
 have BV0 : Below w.heap.size w V0 := hb1.trans ((hb2.trans (hbV.mono hb2.size)).mono hb1.size)
 rw [hV, hBe]
 clear hV ho hb2 hbV hBe hb1 HM
 go_upto_region 5 with fail
 go_cut [8, 9] from 28 to 29 (fun x y wx => ∃ Ba Bb : Nat, x = .pointer (some ⟨Ba, 0, none⟩) ∧ y = .pointer (some ⟨Bb, 0, none⟩) ∧ Ba ≠ Bb ∧ V0.heap.size ≤ Ba ∧ V0.heap.size ≤ Bb ∧ Blk wx Bs 35 (zkx M a0 c0 a1 c1 a2 c2 a3 c3 a4 c4 a5 c5 a6 c6 a7 c7).toArray ∧ Blk wx Ba 35 (zkx M a0 c0 a1 c1 a2 c2 a3 c3 a4 c4 a5 c5 a6 c6 a7 c7).toArray ∧ Blk wx Bb 35 (zkx M a0 c0 a1 c1 a2 c2 a3 c3 a4 c4 a5 c5 a6 c6 a7 c7).toArray ∧ Below V0.heap.size V0 wx)
 case first =>
  obtain ⟨wc, hwc⟩ : ∃ V, V0.drew = V := ⟨_, rfl⟩
  have kS : Blk wc Bs 35 (zkx M a0 c0 a1 c1 a2 c2 a3 c3 a4 c4 a5 c5 a6 c6 a7 c7).toArray := by rw [← hwc]; exact ks.drew_
  have BD : Below V0.heap.size V0 wc := by rw [← hwc]; exact (Below.refl _ _).drew
  refine wp_region_held_drew (S := fun V => V.cell? ⟨Bs, 0, none⟩ = some (.int .i64 M.cap) ∧ V.cell? ⟨Bs, 1, none⟩ = some (.slice a0 M.sl.refs.length c0) ∧ V.cell? ⟨Bs, 2, none⟩ = some (.slice a1 M.sl.busy.length c1) ∧ V.cell? ⟨Bs, 3, none⟩ = some (.slice a2 M.wr.length c2) ∧ V.cell? ⟨Bs, 4, none⟩ = some (.slice a3 M.rd.length c3) ∧ V.cell? ⟨Bs, 5, none⟩ = some (.slice a4 M.desc.length c4) ∧ V.cell? ⟨Bs, 6, none⟩ = some (.slice a5 M.dk.cells.length c5) ∧ V.cell? ⟨Bs, 7, none⟩ = some (.slice a6 M.dk.jobs.length c6) ∧ V.cell? ⟨Bs, 8, none⟩ = some (.int .i64 M.dk.room) ∧ V.cell? ⟨Bs, 9, none⟩ = some (.int .i64 M.po.size) ∧ V.cell? ⟨Bs, 10, none⟩ = some (.slice a7 M.po.free.length c7)) (by kernel_rfl) ?_ (fun hHeld => ?_)
  ·(rw [hwc]; exact ⟨by simpa using kS.cell_ 0, by simpa using kS.cell_ 1, by simpa using kS.cell_ 2, by simpa using kS.cell_ 3, by simpa using kS.cell_ 4, by simpa using kS.cell_ 5, by simpa using kS.cell_ 6, by simpa using kS.cell_ 7, by simpa using kS.cell_ 8, by simpa using kS.cell_ 9, by simpa using kS.cell_ 10⟩)
  refine zht 0 ?_
  refine zht 1 ?_
  refine zhr2 2 3 (fun K hK => ?_) (fun K hK => ?_)
  ·go_simp
   obtain ⟨Ba, hBa⟩ : ∃ n, n = wc.heap.size := ⟨_, rfl⟩
   (try have hne : Bb ≠ Ba := by have := kb.lt; omega)
   have hsa : Bs ≠ Ba := by have := kS.lt; omega
   obtain ⟨wn, hwn⟩ : ∃ V, wc.alloc (.cells zkz.toArray 35) = V := ⟨_, rfl⟩
   have ka : Blk wn Ba 35 zkz.toArray := by rw [← hwn, hBa]; exact Blk.new_ rfl rfl
   replace kS : Blk wn Bs 35 (zkx M a0 c0 a1 c1 a2 c2 a3 c3 a4 c4 a5 c5 a6 c6 a7 c7).toArray := by rw [← hwn]; exact kS.alloc_ _
   (try replace kb : Blk wn Bb 35 zkz.toArray := by rw [← hwn]; exact kb.alloc_ _)
   have hla : V0.heap.size ≤ Ba := by rw [hBa]; exact BD.size
   replace BD : Below V0.heap.size V0 wn := by rw [← hwn]; exact BD.alloc BD.size _
   rw [hwn, ← hBa]
   clear hwn hBa
   obtain ⟨wc, hwc⟩ : ∃ V, V = wn := ⟨_, rfl⟩
   subst hwc
   refine hK.out _ _ (by (exact ⟨by simpa using kS.cell_ 0, by simpa using kS.cell_ 1, by simpa using kS.cell_ 2, by simpa using kS.cell_ 3, by simpa using kS.cell_ 4, by simpa using kS.cell_ 5, by simpa using kS.cell_ 6, by simpa using kS.cell_ 7, by simpa using kS.cell_ 8, by simpa using kS.cell_ 9, by simpa using kS.cell_ 10⟩)) fun hHeld => ?_
   clear hK K
   (try simp only [Act.put, zy0, zy1, zy2])
   refine zhr 3 (fun K hK => ?_)
   go_simp
   obtain ⟨Bb, hBb⟩ : ∃ n, n = wc.heap.size := ⟨_, rfl⟩
   (try have hne : Ba ≠ Bb := by have := ka.lt; omega)
   have hsb : Bs ≠ Bb := by have := kS.lt; omega
   obtain ⟨wn, hwn⟩ : ∃ V, wc.alloc (.cells zkz.toArray 35) = V := ⟨_, rfl⟩
   have kb : Blk wn Bb 35 zkz.toArray := by rw [← hwn, hBb]; exact Blk.new_ rfl rfl
   replace kS : Blk wn Bs 35 (zkx M a0 c0 a1 c1 a2 c2 a3 c3 a4 c4 a5 c5 a6 c6 a7 c7).toArray := by rw [← hwn]; exact kS.alloc_ _
   (try replace ka : Blk wn Ba 35 zkz.toArray := by rw [← hwn]; exact ka.alloc_ _)
   have hlb : V0.heap.size ≤ Bb := by rw [hBb]; exact BD.size
   replace BD : Below V0.heap.size V0 wn := by rw [← hwn]; exact BD.alloc BD.size _
   rw [hwn, ← hBb]
   clear hwn hBb
   obtain ⟨wc, hwc⟩ : ∃ V, V = wn := ⟨_, rfl⟩
   subst hwc
   refine hK.out _ _ (by (exact ⟨by simpa using kS.cell_ 0, by simpa using kS.cell_ 1, by simpa using kS.cell_ 2, by simpa using kS.cell_ 3, by simpa using kS.cell_ 4, by simpa using kS.cell_ 5, by simpa using kS.cell_ 6, by simpa using kS.cell_ 7, by simpa using kS.cell_ 8, by simpa using kS.cell_ 9, by simpa using kS.cell_ 10⟩)) fun hHeld => ?_
   clear hK K
   (try simp only [Act.put, zy0, zy1, zy2])
   refine zhr 4 (fun K hK => ?_)
   have za := ka.lt
   obtain ⟨t0, t1, t2, t3, t4, t5, t6, t7, t8, t9, t10⟩ := zc11 ka
   obtain ⟨tf0, tf1, tf2, tf3, tf4, tf5, tf6, tf7, tf8, tf9, tf10, -⟩ := zf ka
   go_simp
   obtain ⟨wn, hwn⟩ : ∃ V, setN wc Ba 0 (zkx M a0 c0 a1 c1 a2 c2 a3 c3 a4 c4 a5 c5 a6 c6 a7 c7) = V := ⟨_, rfl⟩
   have hn := zs11 hwn
   replace kS : Blk wn Bs 35 (zkx M a0 c0 a1 c1 a2 c2 a3 c3 a4 c4 a5 c5 a6 c6 a7 c7).toArray := by rw [← hwn]; exact kS.setN (by omega) _
   replace kb : Blk wn Bb 35 zkz.toArray := by rw [← hwn]; exact kb.setN (by omega) _
   replace ka : Blk wn Ba 35 (zkx M a0 c0 a1 c1 a2 c2 a3 c3 a4 c4 a5 c5 a6 c6 a7 c7).toArray := by rw [← hwn]; exact blk_setN ka _ rfl
   replace BD : Below V0.heap.size V0 wn := by rw [← hwn]; exact below_setN BD hla _
   rw [hn]
   clear hn hwn za t0 tf0 t1 tf1 t2 tf2 t3 tf3 t4 tf4 t5 tf5 t6 tf6 t7 tf7 t8 tf8 t9 tf9 t10 tf10
   obtain ⟨wc, hwc⟩ : ∃ V, V = wn := ⟨_, rfl⟩
   subst hwc
   refine hK.out _ _ (by (exact ⟨by simpa using kS.cell_ 0, by simpa using kS.cell_ 1, by simpa using kS.cell_ 2, by simpa using kS.cell_ 3, by simpa using kS.cell_ 4, by simpa using kS.cell_ 5, by simpa using kS.cell_ 6, by simpa using kS.cell_ 7, by simpa using kS.cell_ 8, by simpa using kS.cell_ 9, by simpa using kS.cell_ 10⟩)) fun hHeld => ?_
   clear hK K
   (try simp only [Act.put, zy0, zy1, zy2])
   refine zhr 5 (fun K hK => ?_)
   have zb := kb.lt
   obtain ⟨t0, t1, t2, t3, t4, t5, t6, t7, t8, t9, t10⟩ := zc11 kb
   obtain ⟨tf0, tf1, tf2, tf3, tf4, tf5, tf6, tf7, tf8, tf9, tf10, -⟩ := zf kb
   go_simp
   obtain ⟨wn, hwn⟩ : ∃ V, setN wc Bb 0 (zkx M a0 c0 a1 c1 a2 c2 a3 c3 a4 c4 a5 c5 a6 c6 a7 c7) = V := ⟨_, rfl⟩
   have hn := zs11 hwn
   replace kS : Blk wn Bs 35 (zkx M a0 c0 a1 c1 a2 c2 a3 c3 a4 c4 a5 c5 a6 c6 a7 c7).toArray := by rw [← hwn]; exact kS.setN (by omega) _
   replace ka : Blk wn Ba 35 (zkx M a0 c0 a1 c1 a2 c2 a3 c3 a4 c4 a5 c5 a6 c6 a7 c7).toArray := by rw [← hwn]; exact ka.setN (by omega) _
   replace kb : Blk wn Bb 35 (zkx M a0 c0 a1 c1 a2 c2 a3 c3 a4 c4 a5 c5 a6 c6 a7 c7).toArray := by rw [← hwn]; exact blk_setN kb _ rfl
   replace BD : Below V0.heap.size V0 wn := by rw [← hwn]; exact below_setN BD hlb _
   rw [hn]
   clear hn hwn zb t0 tf0 t1 tf1 t2 tf2 t3 tf3 t4 tf4 t5 tf5 t6 tf6 t7 tf7 t8 tf8 t9 tf9 t10 tf10
   obtain ⟨wc, hwc⟩ : ∃ V, V = wn := ⟨_, rfl⟩
   subst hwc
   refine hK.out _ _ (by (exact ⟨by simpa using kS.cell_ 0, by simpa using kS.cell_ 1, by simpa using kS.cell_ 2, by simpa using kS.cell_ 3, by simpa using kS.cell_ 4, by simpa using kS.cell_ 5, by simpa using kS.cell_ 6, by simpa using kS.cell_ 7, by simpa using kS.cell_ 8, by simpa using kS.cell_ 9, by simpa using kS.cell_ 10⟩)) fun hHeld => ?_
   clear hK K
   (try simp only [Act.put, zy0, zy1, zy2])
   refine wpAnyH_done (by kernel_rfl) ?_ _
   go_wp2_with fail
   go_meet
   exact ⟨Ba, Bb, rfl, rfl, by omega, hla, hlb, kS, ka, kb, BD⟩
  ·go_simp
   obtain ⟨Bb, hBb⟩ : ∃ n, n = wc.heap.size := ⟨_, rfl⟩
   (try have hne : Ba ≠ Bb := by have := ka.lt; omega)
   have hsb : Bs ≠ Bb := by have := kS.lt; omega
   obtain ⟨wn, hwn⟩ : ∃ V, wc.alloc (.cells zkz.toArray 35) = V := ⟨_, rfl⟩
   have kb : Blk wn Bb 35 zkz.toArray := by rw [← hwn, hBb]; exact Blk.new_ rfl rfl
   replace kS : Blk wn Bs 35 (zkx M a0 c0 a1 c1 a2 c2 a3 c3 a4 c4 a5 c5 a6 c6 a7 c7).toArray := by rw [← hwn]; exact kS.alloc_ _
   (try replace ka : Blk wn Ba 35 zkz.toArray := by rw [← hwn]; exact ka.alloc_ _)
   have hlb : V0.heap.size ≤ Bb := by rw [hBb]; exact BD.size
   replace BD : Below V0.heap.size V0 wn := by rw [← hwn]; exact BD.alloc BD.size _
   rw [hwn, ← hBb]
   clear hwn hBb
   obtain ⟨wc, hwc⟩ : ∃ V, V = wn := ⟨_, rfl⟩
   subst hwc
   refine hK.out _ _ (by (exact ⟨by simpa using kS.cell_ 0, by simpa using kS.cell_ 1, by simpa using kS.cell_ 2, by simpa using kS.cell_ 3, by simpa using kS.cell_ 4, by simpa using kS.cell_ 5, by simpa using kS.cell_ 6, by simpa using kS.cell_ 7, by simpa using kS.cell_ 8, by simpa using kS.cell_ 9, by simpa using kS.cell_ 10⟩)) fun hHeld => ?_
   clear hK K
   (try simp only [Act.put, zy0, zy1, zy2])
   refine zhr 2 (fun K hK => ?_)
   go_simp
   obtain ⟨Ba, hBa⟩ : ∃ n, n = wc.heap.size := ⟨_, rfl⟩
   (try have hne : Bb ≠ Ba := by have := kb.lt; omega)
   have hsa : Bs ≠ Ba := by have := kS.lt; omega
   obtain ⟨wn, hwn⟩ : ∃ V, wc.alloc (.cells zkz.toArray 35) = V := ⟨_, rfl⟩
   have ka : Blk wn Ba 35 zkz.toArray := by rw [← hwn, hBa]; exact Blk.new_ rfl rfl
   replace kS : Blk wn Bs 35 (zkx M a0 c0 a1 c1 a2 c2 a3 c3 a4 c4 a5 c5 a6 c6 a7 c7).toArray := by rw [← hwn]; exact kS.alloc_ _
   (try replace kb : Blk wn Bb 35 zkz.toArray := by rw [← hwn]; exact kb.alloc_ _)
   have hla : V0.heap.size ≤ Ba := by rw [hBa]; exact BD.size
   replace BD : Below V0.heap.size V0 wn := by rw [← hwn]; exact BD.alloc BD.size _
   rw [hwn, ← hBa]
   clear hwn hBa
   obtain ⟨wc, hwc⟩ : ∃ V, V = wn := ⟨_, rfl⟩
   subst hwc
   refine hK.out _ _ (by (exact ⟨by simpa using kS.cell_ 0, by simpa using kS.cell_ 1, by simpa using kS.cell_ 2, by simpa using kS.cell_ 3, by simpa using kS.cell_ 4, by simpa using kS.cell_ 5, by simpa using kS.cell_ 6, by simpa using kS.cell_ 7, by simpa using kS.cell_ 8, by simpa using kS.cell_ 9, by simpa using kS.cell_ 10⟩)) fun hHeld => ?_
   clear hK K
   (try simp only [Act.put, zy0, zy1, zy2])
   refine zhr 4 (fun K hK => ?_)
   have za := ka.lt
   obtain ⟨t0, t1, t2, t3, t4, t5, t6, t7, t8, t9, t10⟩ := zc11 ka
   obtain ⟨tf0, tf1, tf2, tf3, tf4, tf5, tf6, tf7, tf8, tf9, tf10, -⟩ := zf ka
   go_simp
   obtain ⟨wn, hwn⟩ : ∃ V, setN wc Ba 0 (zkx M a0 c0 a1 c1 a2 c2 a3 c3 a4 c4 a5 c5 a6 c6 a7 c7) = V := ⟨_, rfl⟩
   have hn := zs11 hwn
   replace kS : Blk wn Bs 35 (zkx M a0 c0 a1 c1 a2 c2 a3 c3 a4 c4 a5 c5 a6 c6 a7 c7).toArray := by rw [← hwn]; exact kS.setN (by omega) _
   replace kb : Blk wn Bb 35 zkz.toArray := by rw [← hwn]; exact kb.setN (by omega) _
   replace ka : Blk wn Ba 35 (zkx M a0 c0 a1 c1 a2 c2 a3 c3 a4 c4 a5 c5 a6 c6 a7 c7).toArray := by rw [← hwn]; exact blk_setN ka _ rfl
   replace BD : Below V0.heap.size V0 wn := by rw [← hwn]; exact below_setN BD hla _
   rw [hn]
   clear hn hwn za t0 tf0 t1 tf1 t2 tf2 t3 tf3 t4 tf4 t5 tf5 t6 tf6 t7 tf7 t8 tf8 t9 tf9 t10 tf10
   obtain ⟨wc, hwc⟩ : ∃ V, V = wn := ⟨_, rfl⟩
   subst hwc
   refine hK.out _ _ (by (exact ⟨by simpa using kS.cell_ 0, by simpa using kS.cell_ 1, by simpa using kS.cell_ 2, by simpa using kS.cell_ 3, by simpa using kS.cell_ 4, by simpa using kS.cell_ 5, by simpa using kS.cell_ 6, by simpa using kS.cell_ 7, by simpa using kS.cell_ 8, by simpa using kS.cell_ 9, by simpa using kS.cell_ 10⟩)) fun hHeld => ?_
   clear hK K
   (try simp only [Act.put, zy0, zy1, zy2])
   refine zhr 5 (fun K hK => ?_)
   have zb := kb.lt
   obtain ⟨t0, t1, t2, t3, t4, t5, t6, t7, t8, t9, t10⟩ := zc11 kb
   obtain ⟨tf0, tf1, tf2, tf3, tf4, tf5, tf6, tf7, tf8, tf9, tf10, -⟩ := zf kb
   go_simp
   obtain ⟨wn, hwn⟩ : ∃ V, setN wc Bb 0 (zkx M a0 c0 a1 c1 a2 c2 a3 c3 a4 c4 a5 c5 a6 c6 a7 c7) = V := ⟨_, rfl⟩
   have hn := zs11 hwn
   replace kS : Blk wn Bs 35 (zkx M a0 c0 a1 c1 a2 c2 a3 c3 a4 c4 a5 c5 a6 c6 a7 c7).toArray := by rw [← hwn]; exact kS.setN (by omega) _
   replace ka : Blk wn Ba 35 (zkx M a0 c0 a1 c1 a2 c2 a3 c3 a4 c4 a5 c5 a6 c6 a7 c7).toArray := by rw [← hwn]; exact ka.setN (by omega) _
   replace kb : Blk wn Bb 35 (zkx M a0 c0 a1 c1 a2 c2 a3 c3 a4 c4 a5 c5 a6 c6 a7 c7).toArray := by rw [← hwn]; exact blk_setN kb _ rfl
   replace BD : Below V0.heap.size V0 wn := by rw [← hwn]; exact below_setN BD hlb _
   rw [hn]
   clear hn hwn zb t0 tf0 t1 tf1 t2 tf2 t3 tf3 t4 tf4 t5 tf5 t6 tf6 t7 tf7 t8 tf8 t9 tf9 t10 tf10
   obtain ⟨wc, hwc⟩ : ∃ V, V = wn := ⟨_, rfl⟩
   subst hwc
   refine hK.out _ _ (by (exact ⟨by simpa using kS.cell_ 0, by simpa using kS.cell_ 1, by simpa using kS.cell_ 2, by simpa using kS.cell_ 3, by simpa using kS.cell_ 4, by simpa using kS.cell_ 5, by simpa using kS.cell_ 6, by simpa using kS.cell_ 7, by simpa using kS.cell_ 8, by simpa using kS.cell_ 9, by simpa using kS.cell_ 10⟩)) fun hHeld => ?_
   clear hK K
   (try simp only [Act.put, zy0, zy1, zy2])
   refine wpAnyH_done (by kernel_rfl) ?_ _
   go_wp2_with fail
   go_meet
   exact ⟨Ba, Bb, rfl, rfl, by omega, hla, hlb, kS, ka, kb, BD⟩
 case rest =>
  obtain ⟨Ba, Bb, rfl, rfl, hne, hla', hlb', kS, ka0, kb0, BD⟩ := hcut
  have hla : w.heap.size ≤ Ba := Nat.le_trans BV0.size hla'
  have hlb : w.heap.size ≤ Bb := Nat.le_trans BV0.size hlb'
  have HOm : Hid (SwO wc w.heap.size ⟨a0, c0, a1, c1, a2, c2, a3, c3, a4, c4, a5, c5, a6, c6, a7, c7⟩ M) := HO.out.ext BD
  have Bc := zbt BV0 BD
  have zS := kS.lt
  obtain ⟨-, -, -, -, -, -, -, q7, -⟩ := zc11 kS
  clear hla' hlb' BD ks HO BV0
  go_upto_region 8 with fail
  obtain ⟨V1, hV⟩ : ∃ V, wc.alloc (.cells #[.bool false, .bool false, .bool false, .bool false, .bool false, .bool false] 72) = V := ⟨_, rfl⟩
  obtain ⟨Bv, hBe⟩ : ∃ B, B = wc.heap.size := ⟨_, rfl⟩
  have kv0 : Blk V1 Bv 72 ((List.replicate 6 false).map Value.bool).toArray := by rw [← hV, hBe]; exact Blk.new_ rfl rfl
  have hbV := zab hV
  rw [hV, ← hBe]
  have hva : Ba ≠ Bv := by have := ka0.lt; omega
  have hvb : Bb ≠ Bv := by have := kb0.lt; omega
  have hlv : w.heap.size ≤ Bv := by rw [hBe]; exact Bc.size
  replace ka0 := ka0.below_ hbV ka0.lt
  replace kb0 := kb0.below_ hbV kb0.lt
  have HO1 : Hid (SwO V1 w.heap.size ⟨a0, c0, a1, c1, a2, c2, a3, c3, a4, c4, a5, c5, a6, c6, a7, c7⟩ M) := HOm.out.ext hbV
  have B0 := zbt Bc hbV
  have hj4 : M.dk.jobs.length ≤ 4 := by
   have h1 := HI.out.ok.dk.few
   have h2 := HI.out.ok.room
   have h3 := HI.out.size
   omega
  have HC0 : Hid (CleanI M 0 M) := ⟨HI.out.ok, rfl, rfl, HI.out.len⟩
  have HS0 : Hid (SeenI (List.replicate 6 false) M) := ⟨rfl, fun j hj => by rw [List.getD_eq_getElem?_getD, List.getElem?_replicate]; split <;> rfl⟩
  clear hV hbV hBe HOm zS q7 kS Bc
  go_wp2_with fail
  go_loopw [12] (fun i wr => ∃ (k : Nat) (Sa Sb : Swp) (La Lb : Lay) (sv : List Bool), k ≤ M.dk.jobs.length ∧ i = .int .i64 k ∧ Hid (CleanI M k Sa) ∧ Hid (CleanI M k Sb) ∧ Hid (SeenI sv Sb) ∧ Blk wr Ba 35 (swC La Sa).toArray ∧ Blk wr Bb 35 (swC Lb Sb).toArray ∧ Blk wr Bv 72 (sv.map Value.bool).toArray ∧ Hid (SwO wr w.heap.size La Sa) ∧ Hid (SwO wr w.heap.size Lb Sb) ∧ Below w.heap.size w wr) (fun i _ => 10 - (intOf i).toNat)
  case atStart => exact ⟨0, M, M, ⟨a0, c0, a1, c1, a2, c2, a3, c3, a4, c4, a5, c5, a6, c6, a7, c7⟩, ⟨a0, c0, a1, c1, a2, c2, a3, c3, a4, c4, a5, c5, a6, c6, a7, c7⟩, List.replicate 6 false, by omega, rfl, HC0, HC0, HS0, ka0, kb0, kv0, HO1, HO1, B0⟩
  case round =>
   obtain ⟨k, Sa, Sb, ⟨a0, c0, a1, c1, a2, c2, a3, c3, a4, c4, a5, c5, a6, c6, a7, c7⟩, ⟨b0, k0, b1, k1, b2, k2, b3, k3, b4, k4, b5, k5, b6, k6, b7, k7⟩, sv, hk, rfl, HCa, HCb, HSv, ka, kb, kv, HOa, HOb, hbw⟩ := hrel
   unfold swC at ka kb
   dsimp only at ka kb
   clear ka0 kb0 kv0 HO1 B0 HC0 HS0
   by_cases hlt : k < M.dk.jobs.length
   ·have i1 : (k : Int) < M.dk.jobs.length := by omega
    have i2 : (k : Int) < 10 := by omega
    have hjb : ((Sb.dk.jobs.length : Int) == 0) = false := by have := HCb.out.jobs; simp; intro e; rw [e] at this; simp at this; omega
    have hbp : 0 < Sb.dk.jobs.length := by have := HCb.out.jobs; omega
    have hb4' : Sb.dk.jobs.length ≤ 4 := by have := HCb.out.jobs; omega
    obtain ⟨Ta, Da, _, hTa, hCa, -⟩ := HCa.out.step (n := 0) (by have := HCa.out.jobs; omega)
    have HCa2 := Lib.hid hCa
    replace hTa : cmpW Sa 0 = (Ta, Da, 0) := hTa
    have HC := Complete_any ⟨a0, c0, a1, c1, a2, c2, a3, c3, a4, c4, a5, c5, a6, c6, a7, c7⟩ Sa 0 wr (SwA.of HOa.out.sw HCa.out.ok (by rw [HCa.out.len]; omega)) (HTZ.out.ext HW0 hbw)
    rw [hTa] at HC
    replace HC := Lib.hid HC
    clear hTa hCa
    have za := ka.lt
    obtain ⟨q0, q1, q2, q3, q4, q5, q6, q7, q8, q9, q10⟩ := zc11 ka
    go_wp2_with fail
    refine HC.out.mono ?_
    rintro e4 w4 ⟨⟨d0, e0, d1, e1, d2, e2, d3, e3, d4, e4, d5, e5, d6, e6, d7, e7⟩, rfl, ho, hb4⟩
    unfold swV swC dnV dnC ctC
    (try dsimp only)
    go_upto_region 12 with fail
    obtain ⟨V2, hV⟩ : ∃ V, (w4.alloc (.cells (zkx Ta d0 e0 d1 e1 d2 e2 d3 e3 d4 e4 d5 e5 d6 e6 d7 e7).toArray 35)).alloc (.cells (zkn Da.job.wr Da.job.slot Da.job.frame Da.proc Da.job.data.c0 Da.job.data.c1 Da.job.data.c2 Da.job.data.c3 Da.job.data.c4 Da.job.data.c5 Da.job.data.c6 Da.job.data.c7).toArray 55) = V := ⟨_, rfl⟩
    have kn := za1 hV
    have hbV := zabb hV
    rw [hV]
    have hBV := hb4.trans (hbV.mono hb4.size)
    have B4 := zbt hbw hBV
    replace HOa : Hid (SwO V2 w.heap.size ⟨d0, e0, d1, e1, d2, e2, d3, e3, d4, e4, d5, e5, d6, e6, d7, e7⟩ Ta) := (ho.base_ hbw.size).ext hbV
    have hn4 : wr.heap.size ≤ w4.heap.size := hb4.size
    have zwa := ka.lt
    have zlb := kb.lt
    have zlv := kv.lt
    replace ka := ka.below_ hBV ka.lt
    replace kb := kb.below_ hBV kb.lt
    replace kv := kv.below_ hBV kv.lt
    replace HOb := Lib.hid (HOb.out.ext hBV)
    clear hV hbV hb4 ho hBV za HC q0 q1 q2 q3 q4 q5 q6 q7 q8 q9 q10
    have zn := kn.lt
    have za := ka.lt
    have zb := kb.lt
    obtain ⟨m0, m1, m2, m3, m4, m5, m6, m7, m8, m9, m10⟩ := zc11 kn
    obtain ⟨t0, t1, t2, t3, t4, t5, t6, t7, t8, t9, t10⟩ := zc11 ka
    obtain ⟨tf0, tf1, tf2, tf3, tf4, tf5, tf6, tf7, tf8, tf9, tf10, -⟩ := zf ka
    have q7 := zc kb 7
    go_upto_region 15 with fail
    obtain ⟨U1, hU1⟩ : ∃ V, setN V2 Ba 0 (zkx Ta d0 e0 d1 e1 d2 e2 d3 e3 d4 e4 d5 e5 d6 e6 d7 e7) = V := ⟨_, rfl⟩
    have hU1n := zs11 hU1
    replace HOb : Hid (SwO U1 w.heap.size ⟨b0, k0, b1, k1, b2, k2, b3, k3, b4, k4, b5, k5, b6, k6, b7, k7⟩ Sb) := by rw [← hU1]; exact HOb.out.farG ka (by decide) _
    replace HOa : Hid (SwO U1 w.heap.size ⟨d0, e0, d1, e1, d2, e2, d3, e3, d4, e4, d5, e5, d6, e6, d7, e7⟩ Ta) := by rw [← hU1]; exact HOa.out.farG ka (by decide) _
    replace kb : Blk U1 Bb 35 (zkx Sb b0 k0 b1 k1 b2 k2 b3 k3 b4 k4 b5 k5 b6 k6 b7 k7).toArray := by rw [← hU1]; exact kb.setN (by omega) _
    replace kv : Blk U1 Bv 72 (sv.map Value.bool).toArray := by rw [← hU1]; exact kv.setN (by omega) _
    replace kn : Blk U1 w4.heap.size 35 (zkx Ta d0 e0 d1 e1 d2 e2 d3 e3 d4 e4 d5 e5 d6 e6 d7 e7).toArray := by rw [← hU1]; exact kn.setN (by omega) _
    replace ka : Blk U1 Ba 35 (zkx Ta d0 e0 d1 e1 d2 e2 d3 e3 d4 e4 d5 e5 d6 e6 d7 e7).toArray := by rw [← hU1]; exact blk_setN ka _ rfl
    have B1 := zbw hU1 B4 (by omega)
    rw [hU1n]
    clear hU1n hU1
    clear zn za zb q7 kn m0 t0 tf0 m1 t1 tf1 m2 t2 tf2 m3 t3 tf3 m4 t4 tf4 m5 t5 tf5 m6 t6 tf6 m7 t7 tf7 m8 t8 tf8 m9 t9 tf9 m10 t10 tf10
    have HNx : Hid (Sl U1 (.int .i64) A' order) := HN'.out.ext B1
    obtain ⟨n, hn⟩ : ∃ n : Nat, atS order k % (Sb.dk.jobs.length : Int) = (n : Int) := ⟨(atS order k % (Sb.dk.jobs.length : Int)).toNat, (Int.toNat_of_nonneg (Int.emod_nonneg _ (by omega))).symm⟩
    have hnl : n < Sb.dk.jobs.length := by have := Int.emod_lt_of_pos (atS order k) (show (0 : Int) < Sb.dk.jobs.length by omega); omega
    have HMod := fun V => Mod_any (atS order k) (Sb.dk.jobs.length : Int) V (by omega) (by omega)
    rw [hn] at HMod
    replace HMod := Lib.hid HMod
    obtain ⟨Tb, D, m, hTb, hCb, hDs, hm6, hSv⟩ := HCb.out.step hnl
    have HSv2 := Lib.hid (hSv sv HSv.out)
    obtain ⟨⟨jw, js, jf, jd⟩, jp⟩ := D
    dsimp only at hDs
    subst hDs
    obtain ⟨D, hD⟩ : ∃ D : Dn, D = ⟨⟨jw, (m : Int), jf, jd⟩, jp⟩ := ⟨_, rfl⟩
    rw [← hD] at hTb
    have hC : ∀ V, Below U1.heap.size U1 V → _ := fun V hV => Complete_any ⟨b0, k0, b1, k1, b2, k2, b3, k3, b4, k4, b5, k5, b6, k6, b7, k7⟩ Sb (n : Int) V (SwA.of (HOb.out.sw.ext hV) HCb.out.ok (by rw [HCb.out.len]; omega)) (HTZ.out.ext HW0 (B1.trans (hV.mono B1.size)))
    rw [hTb] at hC
    have HC := Lib.hid hC
    have HCb2 := Lib.hid hCb
    have HD := Lib.hid hD
    clear hC hTb hCb hSv hD hn hnl
    go_wp2_with fail
    refine zrg [1, 0, 0, 1, 0, 0, 1, 0, 1, 2, 0, 0, 0, 0, 2, 2, 3, 3, 0] [[], [], [], [], [], [], [], [], [], [], [9], [10], [10], [10], [], [], [], [], [13]] [.kn ?_, .is ?_, .is ?_, .kn (.int .i64 (atS order k)), .is ?_, .is ?_, .kn ?_, .is ?_, .kn (.int .i64 (n : Nat)), .has (SwF Tb [dnV D, .int .i64 0]), .fn [9] fst_, .fn [10] (fun l => tupAt (fst_ l) 0), .fn [10] (fun l => tupAt (fst_ l) 1), .fn [10] (fun l => tupAt (fst_ l) 2), .has (VarN 35 zkz), .has (VarN 55 (zkn false 0 0 0 0 0 0 0 0 0 0 0)), .late, .late, .fn [13] fst_] [16, 17] (lts_kn (lts_is (lts_is (lts_kn (lts_is (lts_is (lts_kn (lts_is (lts_kn (lts_has (SwF.lasts Tb [dnV D, .int .i64 0]) (lts_fn (lts_fn (lts_fn (lts_fn (lts_has (VarN.lasts 35 zkz) (lts_has (VarN.lasts 55 (zkn false 0 0 0 0 0 0 0 0 0 0 0)) (lts_late (lts_late (lts_fn lts_nil))))))))))))))))))) (fun W0 hb0 hz0 => ?_)
    rotate_left 7
    have kW := kb.below_ hb0 kb.lt
    have zW := kW.lt
    obtain ⟨p0, p1, p2, p3, p4, p5, p6, p7, p8, p9, p10⟩ := zc11 kW
    refine zqT (fun w hbw hd => ?_) ?_
    ·have r0 := cell_keep hbw p0 zW
     have r1 := cell_keep hbw p1 zW
     have r2 := cell_keep hbw p2 zW
     have r3 := cell_keep hbw p3 zW
     have r4 := cell_keep hbw p4 zW
     have r5 := cell_keep hbw p5 zW
     have r6 := cell_keep hbw p6 zW
     have r7 := cell_keep hbw p7 zW
     have r8 := cell_keep hbw p8 zW
     have r9 := cell_keep hbw p9 zW
     have r10 := cell_keep hbw p10 zW
     exact zgs
    refine zqp ?_
    refine zqp ?_
    refine zqc (fun w hbw hd K Q' hK => ?_) ?_
    ·clear hd
     go_simp
     refine (At_any A' c' order k _ (HNx.out.ext (hb0.trans (hbw.mono hb0.size))) hln').mono ?_
     rintro e y ⟨rfl, rfl⟩
     go_wp2_with fail
     exact hK.out _ _ _ zpt zbm rfl
    refine zqp ?_
    refine zqp ?_
    refine zqT (fun w hbw hd => ?_) ?_
    ·have r7 := cell_keep hbw p7 zW
     exact zgs
    refine zqp ?_
    refine zqc (fun w hbw hd K Q' hK => ?_) ?_
    ·clear hd
     go_simp
     refine (HMod.out _).mono ?_
     rintro e y ⟨rfl, rfl⟩
     go_wp2_with fail
     exact hK.out _ _ _ zpt zbm rfl
    refine zqh (fun w hbw hd K Q' hK => ?_) (fun vc9 => ?_)
    ·clear hd
     go_simp
     refine (HC.out _ (hb0.trans (hbw.mono hb0.size))).mono ?_
     rintro e y ⟨⟨f0, g0, f1, g1, f2, g2, f3, g3, f4, g4, f5, g5, f6, g6, f7, g7⟩, rfl, ho, hy⟩
     unfold swV swC
     go_wp2_with fail
     exact hK.out (.tuple #[.agg (zkx Tb f0 g0 f1 g1 f2 g2 f3 g3 f4 g4 f5 g5 f6 g6 f7 g7).toArray, dnV D, .int .i64 0]) _ _ zpt zbm ⟨⟨f0, g0, f1, g1, f2, g2, f3, g3, f4, g4, f5, g5, f6, g6, f7, g7⟩, rfl, ho⟩
    refine zqf (vc9) ?_
    refine zqF (tupAt (vc9) 0) (fun w0 hd w => ?_) ?_
    ·obtain ⟨_, _, ⟨f0, g0, f1, g1, f2, g2, f3, g3, f4, g4, f5, g5, f6, g6, f7, g7⟩, rfl, _⟩ : ∃ lo hi, SwF Tb [dnV D, .int .i64 0] vc9 lo hi w0 := hd 9 _ _ (by kernel_rfl) rfl rfl
     unfold swV swC
     exact zsr
    refine zqF (tupAt (vc9) 1) (fun w0 hd w => ?_) ?_
    ·obtain ⟨_, _, ⟨f0, g0, f1, g1, f2, g2, f3, g3, f4, g4, f5, g5, f6, g6, f7, g7⟩, rfl, _⟩ : ∃ lo hi, SwF Tb [dnV D, .int .i64 0] vc9 lo hi w0 := hd 9 _ _ (by kernel_rfl) rfl rfl
     unfold swV swC
     exact zsr
    refine zqF (tupAt (vc9) 2) (fun w0 hd w => ?_) ?_
    ·obtain ⟨_, _, ⟨f0, g0, f1, g1, f2, g2, f3, g3, f4, g4, f5, g5, f6, g6, f7, g7⟩, rfl, _⟩ : ∃ lo hi, SwF Tb [dnV D, .int .i64 0] vc9 lo hi w0 := hd 9 _ _ (by kernel_rfl) rfl rfl
     unfold swV swC
     exact zsr
    refine zqh (fun w hbw hd K Q' hK => ?_) (fun vc14 => ?_)
    ·clear hd
     go_simp
     exact hK.out (.pointer (some ⟨w.heap.size, 0, none⟩)) _ _ zpt zbm ⟨_, rfl, Blk.new_ rfl rfl, Nat.le_refl _, by simp⟩
    refine zqh (fun w hbw hd K Q' hK => ?_) (fun vc15 => ?_)
    ·clear hd
     go_simp
     exact hK.out (.pointer (some ⟨w.heap.size, 0, none⟩)) _ _ zpt zbm ⟨_, rfl, Blk.new_ rfl rfl, Nat.le_refl _, by simp⟩
    refine zql ?_
    refine zql ?_
    refine zqf (tupAt (vc9) 2) ?_
    refine chn_end (fun wz lo hi hbz hd hR => ?_)
    obtain ⟨⟨f0, g0, f1, g1, f2, g2, f3, g3, f4, g4, f5, g5, f6, g6, f7, g7⟩, rfl, ho⟩ : SwF Tb [dnV D, .int .i64 0] vc9 (lo 9) (hi 9) wz := hd 9 _ _ rfl rfl
    obtain ⟨Bx, rfl, kx, hx1, hx2⟩ : VarN 35 zkz vc14 (lo 14) (hi 14) wz := hd 14 _ _ rfl rfl
    obtain ⟨By, rfl, ky, hy1, hy2⟩ : VarN 55 (zkn false 0 0 0 0 0 0 0 0 0 0 0) vc15 (lo 15) (hi 15) wz := hd 15 _ _ rfl rfl
    have hrx := (hR.2 14 _ rfl).1
    have hry := (hR.2 15 _ rfl).1
    have hro := (hR.2 9 _ rfl).1
    have hxy := hR.1 14 15 _ _ rfl rfl (by omega)
    have hnxy : Bx ≠ By := by omega
    have hbz0 := hb0.trans (hbz.mono hb0.size)
    have Bz := zbt B1 hbz0
    have hsU := hb0.size
    have hsw := B1.size
    have HOb : Hid (SwO wz w.heap.size ⟨f0, g0, f1, g1, f2, g2, f3, g3, f4, g4, f5, g5, f6, g6, f7, g7⟩ Tb) := ho.base_ (by omega)
    have zla := ka.lt
    have zlb := kb.lt
    have zlv := kv.lt
    have hxl : U1.heap.size ≤ Bx := by omega
    have hyl : U1.heap.size ≤ By := by omega
    replace ka := ka.below_ hbz0 ka.lt
    replace kb := kb.below_ hbz0 kb.lt
    replace kv := kv.below_ hbz0 kv.lt
    replace HOa := Lib.hid (HOa.out.ext hbz0)
    clear hd hR hbz hb0 hbz0 kW zW hrx hry hro hxy hx1 hx2 hy1 hy2 ho p0 p1 p2 p3 p4 p5 p6 p7 p8 p9 p10
    unfold swV swC dnV dnC ctC
    (try dsimp only)
    simp only [tupAt, List.getD_cons_succ, List.getD_cons_zero, Array.getD_eq_getD_getElem?, zy5, zy6, zy7, Option.getD_some]
    have zx := kx.lt
    obtain ⟨t0, t1, t2, t3, t4, t5, t6, t7, t8, t9, t10⟩ := zc11 kx
    obtain ⟨tf0, tf1, tf2, tf3, tf4, tf5, tf6, tf7, tf8, tf9, tf10, -⟩ := zf kx
    refine late_cons (by kernel_rfl) (by simp only [zy5, zy6, zy7]; rfl) (fun K Q' hK => ?_)
    go_simp
    obtain ⟨U2, hU2⟩ : ∃ V, setN wz Bx 0 (zkx Tb f0 g0 f1 g1 f2 g2 f3 g3 f4 g4 f5 g5 f6 g6 f7 g7) = V := ⟨_, rfl⟩
    have hU2n := zs11 hU2
    replace HOa : Hid (SwO U2 w.heap.size ⟨d0, e0, d1, e1, d2, e2, d3, e3, d4, e4, d5, e5, d6, e6, d7, e7⟩ Ta) := by rw [← hU2]; exact HOa.out.farG kx (by decide) _
    replace HOb : Hid (SwO U2 w.heap.size ⟨f0, g0, f1, g1, f2, g2, f3, g3, f4, g4, f5, g5, f6, g6, f7, g7⟩ Tb) := by rw [← hU2]; exact HOb.out.farG kx (by decide) _
    replace ka : Blk U2 Ba 35 (zkx Ta d0 e0 d1 e1 d2 e2 d3 e3 d4 e4 d5 e5 d6 e6 d7 e7).toArray := by rw [← hU2]; exact ka.setN (by omega) _
    replace kb : Blk U2 Bb 35 (zkx Sb b0 k0 b1 k1 b2 k2 b3 k3 b4 k4 b5 k5 b6 k6 b7 k7).toArray := by rw [← hU2]; exact kb.setN (by omega) _
    replace kv : Blk U2 Bv 72 (sv.map Value.bool).toArray := by rw [← hU2]; exact kv.setN (by omega) _
    replace ky : Blk U2 By 55 (zkn false 0 0 0 0 0 0 0 0 0 0 0).toArray := by rw [← hU2]; exact ky.setN (by omega) _
    replace kx : Blk U2 Bx 35 (zkx Tb f0 g0 f1 g1 f2 g2 f3 g3 f4 g4 f5 g5 f6 g6 f7 g7).toArray := by rw [← hU2]; exact blk_setN kx _ rfl
    have B2 := zbw hU2 Bz (by omega)
    rw [hU2n]
    clear hU2n hU2
    clear zx t0 tf0 t1 tf1 t2 tf2 t3 tf3 t4 tf4 t5 tf5 t6 tf6 t7 tf7 t8 tf8 t9 tf9 t10 tf10
    refine hK.out _ ?_
    clear hK K Q'
    have zy := ky.lt
    obtain ⟨t0, t1, t2, t3, t4, t5, t6, t7, t8, t9, t10, t11⟩ := zc12 ky
    obtain ⟨tf0, tf1, tf2, tf3, tf4, tf5, tf6, tf7, tf8, tf9, tf10, tf11⟩ := zf ky
    refine late_cons (by kernel_rfl) (by simp only [zy5, zy6, zy7]; rfl) (fun K Q' hK => ?_)
    go_simp
    obtain ⟨U3, hU3⟩ : ∃ V, setN U2 By 0 (zkn D.job.wr D.job.slot D.job.frame D.proc D.job.data.c0 D.job.data.c1 D.job.data.c2 D.job.data.c3 D.job.data.c4 D.job.data.c5 D.job.data.c6 D.job.data.c7) = V := ⟨_, rfl⟩
    have hU3n := zs12 hU3
    replace HOa : Hid (SwO U3 w.heap.size ⟨d0, e0, d1, e1, d2, e2, d3, e3, d4, e4, d5, e5, d6, e6, d7, e7⟩ Ta) := by rw [← hU3]; exact HOa.out.farG ky (by decide) _
    replace HOb : Hid (SwO U3 w.heap.size ⟨f0, g0, f1, g1, f2, g2, f3, g3, f4, g4, f5, g5, f6, g6, f7, g7⟩ Tb) := by rw [← hU3]; exact HOb.out.farG ky (by decide) _
    replace ka : Blk U3 Ba 35 (zkx Ta d0 e0 d1 e1 d2 e2 d3 e3 d4 e4 d5 e5 d6 e6 d7 e7).toArray := by rw [← hU3]; exact ka.setN (by omega) _
    replace kb : Blk U3 Bb 35 (zkx Sb b0 k0 b1 k1 b2 k2 b3 k3 b4 k4 b5 k5 b6 k6 b7 k7).toArray := by rw [← hU3]; exact kb.setN (by omega) _
    replace kv : Blk U3 Bv 72 (sv.map Value.bool).toArray := by rw [← hU3]; exact kv.setN (by omega) _
    replace kx : Blk U3 Bx 35 (zkx Tb f0 g0 f1 g1 f2 g2 f3 g3 f4 g4 f5 g5 f6 g6 f7 g7).toArray := by rw [← hU3]; exact kx.setN (by omega) _
    replace ky : Blk U3 By 55 (zkn D.job.wr D.job.slot D.job.frame D.proc D.job.data.c0 D.job.data.c1 D.job.data.c2 D.job.data.c3 D.job.data.c4 D.job.data.c5 D.job.data.c6 D.job.data.c7).toArray := by rw [← hU3]; exact blk_setN ky _ rfl
    have B3 := zbw hU3 B2 (by omega)
    rw [hU3n]
    clear hU3n hU3
    clear zy t0 tf0 t1 tf1 t2 tf2 t3 tf3 t4 tf4 t5 tf5 t6 tf6 t7 tf7 t8 tf8 t9 tf9 t10 tf10 t11 tf11
    refine hK.out _ ?_
    clear hK K Q'
    refine late_none ?_
    have hsv := HSv2.out.1
    have hc6 := (HSv.out.1)
    have zy := ky.lt
    have zv := kv.lt
    have hg1 : U3.cell? ⟨Bv, m, none⟩ = some (.bool false) := sv_cell kv hc6 hm6 hsv
    have hgf := kv.frozen_ m
    have hDm : D.job.slot = (m : Int) := by rw [HD.out]
    have n1 : U3.cell? ⟨By, 1, none⟩ = some (.int .i64 (m : Nat)) := (ky.cell_ 1).trans (by rw [← hDm]; rfl)
    clear hDm
    have i0 : ¬ ((m : Int) < 0) := by omega
    have i5 : ¬ ((m : Int) > 5) := by omega
    have i6 : (m : Int) < 6 := by omega
    have i7 : 0 ≤ (m : Int) := by omega
    clear hsv hc6
    go_upto_region 19 with fail
    obtain ⟨U4, hU4⟩ : ∃ V, setN U3 Bv m [.bool true] = V := ⟨_, rfl⟩
    have hU4n : World.setCell U3 ⟨Bv, m, none⟩ (.bool true) = U4 := hU4
    replace HOa : Hid (SwO U4 w.heap.size ⟨d0, e0, d1, e1, d2, e2, d3, e3, d4, e4, d5, e5, d6, e6, d7, e7⟩ Ta) := by rw [← hU4]; exact HOa.out.farG kv (by decide) _
    replace HOb : Hid (SwO U4 w.heap.size ⟨f0, g0, f1, g1, f2, g2, f3, g3, f4, g4, f5, g5, f6, g6, f7, g7⟩ Tb) := by rw [← hU4]; exact HOb.out.farG kv (by decide) _
    replace ka : Blk U4 Ba 35 (zkx Ta d0 e0 d1 e1 d2 e2 d3 e3 d4 e4 d5 e5 d6 e6 d7 e7).toArray := by rw [← hU4]; exact blk_setNo ka (by omega) _
    replace kb : Blk U4 Bb 35 (zkx Sb b0 k0 b1 k1 b2 k2 b3 k3 b4 k4 b5 k5 b6 k6 b7 k7).toArray := by rw [← hU4]; exact blk_setNo kb (by omega) _
    replace kx : Blk U4 Bx 35 (zkx Tb f0 g0 f1 g1 f2 g2 f3 g3 f4 g4 f5 g5 f6 g6 f7 g7).toArray := by rw [← hU4]; exact blk_setNo kx (by omega) _
    replace kv : Blk U4 Bv 72 ((sv.set m true).map Value.bool).toArray := by rw [← hU4]; exact sv_set kv
    have Bq := zbw hU4 B3 hlv
    rw [hU4n]
    clear hU4n hU4 hg1 hgf n1 zy zv ky i0 i5 i6 i7
    have zx := kx.lt
    have zb := kb.lt
    obtain ⟨m0, m1, m2, m3, m4, m5, m6, m7, m8, m9, m10⟩ := zc11 kx
    obtain ⟨t0, t1, t2, t3, t4, t5, t6, t7, t8, t9, t10⟩ := zc11 kb
    obtain ⟨tf0, tf1, tf2, tf3, tf4, tf5, tf6, tf7, tf8, tf9, tf10, -⟩ := zf kb
    go_upto_region 10 with fail
    obtain ⟨U5, hU5⟩ : ∃ V, setN U4 Bb 0 (zkx Tb f0 g0 f1 g1 f2 g2 f3 g3 f4 g4 f5 g5 f6 g6 f7 g7) = V := ⟨_, rfl⟩
    have hU5n := zs11 hU5
    replace HOa : Hid (SwO U5 w.heap.size ⟨d0, e0, d1, e1, d2, e2, d3, e3, d4, e4, d5, e5, d6, e6, d7, e7⟩ Ta) := by rw [← hU5]; exact HOa.out.farG kb (by decide) _
    replace HOb : Hid (SwO U5 w.heap.size ⟨f0, g0, f1, g1, f2, g2, f3, g3, f4, g4, f5, g5, f6, g6, f7, g7⟩ Tb) := by rw [← hU5]; exact HOb.out.farG kb (by decide) _
    replace ka : Blk U5 Ba 35 (zkx Ta d0 e0 d1 e1 d2 e2 d3 e3 d4 e4 d5 e5 d6 e6 d7 e7).toArray := by rw [← hU5]; exact ka.setN (by omega) _
    replace kv : Blk U5 Bv 72 ((sv.set m true).map Value.bool).toArray := by rw [← hU5]; exact kv.setN (by omega) _
    replace kx : Blk U5 Bx 35 (zkx Tb f0 g0 f1 g1 f2 g2 f3 g3 f4 g4 f5 g5 f6 g6 f7 g7).toArray := by rw [← hU5]; exact kx.setN (by omega) _
    replace kb : Blk U5 Bb 35 (zkx Tb f0 g0 f1 g1 f2 g2 f3 g3 f4 g4 f5 g5 f6 g6 f7 g7).toArray := by rw [← hU5]; exact blk_setN kb _ rfl
    have B5 := zbw hU5 Bq hlb
    rw [hU5n]
    clear hU5n hU5
    clear zx zb m0 t0 tf0 m1 t1 tf1 m2 t2 tf2 m3 t3 tf3 m4 t4 tf4 m5 t5 tf5 m6 t6 tf6 m7 t7 tf7 m8 t8 tf8 m9 t9 tf9 m10 t10 tf10
    go_wp2_with fail
    go_roundw
    case rel => exact ⟨k + 1, Ta, Tb, ⟨d0, e0, d1, e1, d2, e2, d3, e3, d4, e4, d5, e5, d6, e6, d7, e7⟩, ⟨f0, g0, f1, g1, f2, g2, f3, g3, f4, g4, f5, g5, f6, g6, f7, g7⟩, sv.set m true, by omega, by go_num, HCa2.out, HCb2.out, HSv2.out.2, ka, kb, kv, HOa.out, HOb.out, B5⟩
    case measure => simp [intOf]; omega
   ·have i1 : ¬ ((k : Int) < M.dk.jobs.length) := by omega
    obtain ⟨S, hS⟩ : ∃ S, finS M = S := ⟨_, rfl⟩
    have hsa := HCa.out.done hlt
    have hsb := HCb.out.done hlt
    rw [hS] at hsa hsb
    subst hsa hsb
    have hJ : Hid (Sb.dk.jobs.length = 0) := by have := HCa.out.jobs; show _ = _; omega
    have hF : Hid (Sb.po.free.length = 4) := by
     show _ = _
     rw [← hS]
     show (rngI M.po.size.toNat).length = 4
     unfold rngI
     rw [List.length_map, List.length_range, HI.out.size]
     rfl
    have hB : Hid (Sb.sl.busy = List.replicate 6 false) := by
     show _ = _
     rw [← hS]
     show List.replicate M.sl.refs.length false = _
     rw [HI.out.len]
    have hW : Hid (Sb.wr.length = 0 ∧ Sb.rd.length = 0) := by have h1 := jobs_len HCa.out.ok; have := hJ.out; exact ⟨by omega, by omega⟩
    have HF2 : Hid (((Sb.dk.jobs.length : Int) != 0) = false ∧ ((Sb.wr.length : Int) != 0) = false ∧ ((Sb.rd.length : Int) != 0) = false ∧ ((Sb.po.free.length : Int) != 4) = false) := ⟨by rw [hJ.out]; rfl, by rw [hW.out.1]; rfl, by rw [hW.out.2]; rfl, by rw [hF.out]; rfl⟩
    have HC := sameSwap_refl ⟨a0, c0, a1, c1, a2, c2, a3, c3, a4, c4, a5, c5, a6, c6, a7, c7⟩ ⟨b0, k0, b1, k1, b2, k2, b3, k3, b4, k4, b5, k5, b6, k6, b7, k7⟩ Sb wr HOa.out.sw HOb.out.sw (Few.of_ok HCa.out.ok (by rw [HCa.out.len]; omega))
    have HBu := Lib.hid (HOa.out.sw.r1)
    have HC' := Lib.hid HC
    clear HC hS hF hJ hW HOb HSv
    have za := ka.lt
    have zb := kb.lt
    obtain ⟨q0, q1, q2, q3, q4, q5, q6, q7, q8, q9, q10⟩ := zc11 ka
    obtain ⟨s0, s1, s2, s3, s4, s5, s6, s7, s8, s9, s10⟩ := zc11 kb
    go_wp2_with fail
    refine HC'.out.mono ?_
    rintro e4 w4 ⟨rfl, hb4⟩
    replace ka := ka.below_ hb4 ka.lt
    have HBu4 : Hid (SR boolE w4 a1 Sb.sl.busy) := HBu.out.ext hb4
    have B4 := hbw.trans (hb4.mono hbw.size)
    clear za zb kb HC' HBu hb4 q0 s0 q1 s1 q2 s2 q3 s3 q4 s4 q5 s5 q6 s6 q7 s7 q8 s8 q9 s9 q10 s10
    have za := ka.lt
    obtain ⟨q0, q1, q2, q3, q4, q5, q6, q7, q8, q9, q10⟩ := zc11 ka
    obtain ⟨f1, f2, f3, f4⟩ := HF2.out
    go_upto_region 22 with fail
    clear f1 f2 f3 f4
    go_wp2_with fail
    go_loopw [19] (fun i wr => ∃ j : Nat, j ≤ 6 ∧ i = .int .i64 j ∧ wr = w4) (fun i _ => 6 - (intOf i).toNat)
    case atStart => exact ⟨0, by omega, rfl, rfl⟩
    case round =>
     obtain ⟨j, hj, rfl, rfl⟩ := hrel
     by_cases hjl : j < 6
     ·have j1 : Hid ((j : Int) < Sb.sl.busy.length) := by show _ < _; rw [hB.out, List.length_replicate]; omega
      obtain ⟨bb, bo, y, hba, hbb, hy, hbc⟩ := HBu4.out.sb (k := j) (by rw [hB.out, List.length_replicate]; omega)
      (try dsimp only at hba)
      subst hba
      obtain rfl : y = false := by
       rw [hB.out, List.getElem?_replicate, if_pos hjl] at hy
       exact (Option.some.inj hy).symm
      clear hy
      have j2 := j1.out
      go_wp2_with fail
      go_roundw
      case rel => exact ⟨j + 1, by omega, by go_num, trivial⟩
      case measure => simp [intOf]; omega
     ·have j1 : ¬ ((j : Int) < Sb.sl.busy.length) := by rw [hB.out, List.length_replicate]; omega
      go_wp2_with fail
      go_ret
      exact ⟨rfl, B4⟩
end Go.Proofs.YthijbipidbjpfaaGreatDoor
namespace Go.Proofs.YthijbipidbjpfaaGreatDoor
open Go.RowKit Go.Maps
open Go.ChangeShapes Go.WideShapes Go.ChangeAt
theorem own : ownKnob Tryz.prog.godebug = none := by kernel_rfl
theorem laidOut : laidOutB Tryz.prog = true := by kernel_rfl
section
variable {H : Type} {enc : TypeId × Value → H} {P : Program}
theorem trodAll_below (hl : laidOutB P = true) {W W' : World} (hb : Below W.heap.size W W') : ∀ (ts : List TypeId) (vs : List Value) (ds : List (DataW H)) (ps : List MemPlace),
  (∀ t ∈ ts, P.readableRec t = true ∧ t < P.types.size) → (∀ x ∈ ps, x.block < W.heap.size) → DataW.TrodAll enc P W 0 (fun _ => true) true ts vs ds ps →
  DataW.TrodAll enc P W' 0 (fun b => decide (b < W.heap.size)) true ts vs ds ps
 | [], [], [], ps, _, _, h => h
 | [], _ :: _, _, _, _, _, h => by simp [DataW.TrodAll] at h
 | [], [], _ :: _, _, _, _, h => by simp [DataW.TrodAll] at h
 | _ :: _, [], _, _, _, _, h => by simp [DataW.TrodAll] at h
 | _ :: _, _ :: _, [], _, _, _, h => by simp [DataW.TrodAll] at h
 | t :: ts, v :: vs, d :: ds, ps, hr, hlt, h => by
  obtain ⟨p, q, h1, h2, rfl⟩ := h
  exact ⟨p, q, Below.trod hl (hr t (by simp)).1 (hr t (by simp)).2 h1 hb (fun x hx => hlt x (by simp [hx])), trodAll_below hl hb ts vs ds q (fun t ht => hr t (by simp [ht])) (fun x hx => hlt x (by simp [hx])) h2, rfl⟩
theorem law_post (hl : laidOutB P = true) {f : Func} {s : ChangeSpec} {B : TypeId} (hvars : s.vars = []) (hrt : f.resultTypes = #[B]) (hB : P.underlying B = some .bool) {W W' : World} {args : Array Value} {ds gs : List (DataW H)} {before : List MemPlace}
  (hr : ∀ t ∈ f.params.toList, P.readableRec t = true ∧ t < P.types.size)
  (hW : DataW.Whole enc P f.params.toList s.vars false W args.toList ds gs before) (hs : s.fn H (ds ++ gs) = { results := [.lit (.bool true)], args := ds }) (hb : Below W.heap.size W W') :
  s.post enc P f false true false false W args (.bool true) W' := by
 have hlt : ∀ p ∈ before, p.block < W.heap.size := fun p hp => hW.lt p hp
 have hW0 := hW
 obtain ⟨p, q, hA, hV, rfl, _, _⟩ := hW0
 rw [hvars] at hV
 obtain ⟨rfl, rfl⟩ := trodVars_none hV
 refine ⟨ds, [], p ++ [], [], p, [], hW, ?_, ?_, ?_, World.keptBut_mono (fun x hx => ⟨hx, .inr (.inl (by simpa using hx))⟩) (hb.frame (· ∈ p ++ [])), fun h => by cases h⟩
 ·rw [hs, hrt]
  exact trodAll_cons_mk (shut_bool hB _) trodAll_mk0
 ·rw [hs]
  exact trodAll_below hl hb _ _ _ _ hr (fun x hx => hlt x (by simpa using hx)) hA
 ·rw [hvars, hs]
  rfl
end
section
variable {H : Type} {enc : TypeId × Value → H} {P : Program} {W : World}
theorem open_cellsI {t e : TypeId} {fuel : Nat} {v : Value} {x : DataW H × List MemPlace} (ht : P.underlying t = some (.slice e)) (he : P.underlying e = some (.int .i64)) (hc : P.cellsOf e = 1)
  (h : DataW.trod enc P W 0 (fun _ => true) true fuel t [v] = some x) :
  ∃ A c xs, v = .slice A xs.length c ∧ Sl W (.int .i64) A xs ∧ (∀ n ∈ xs, (Lit.int .i64 n).wf = true) ∧ xs.length ≤ maxLen := by
 rcases open_ints ht he hc h with ⟨hcs, _⟩ | ⟨a, len, cap, zs, hcs, _, hl, hm, hz, _, hcell, hw⟩
 ·injection hcs with e1
  exact ⟨none, 0, [], e1, Sl.nil, by simp, by simp⟩
 ·injection hcs with e1
  simp only [if_true] at hz
  have hlen : (zs.take len).length = len := by simp; omega
  refine ⟨some a, cap, zs.take len, by rw [hlen]; exact e1, fun hp => ?_, fun n hn => hw n (List.mem_of_mem_take hn), by omega⟩
  obtain ⟨b, off, rfl, hc'⟩ := ints_at hcell (by omega)
  refine ⟨b, off, rfl, ?_, fun j x hx => ?_⟩
  ·exact World.block_lt_of_cell? W ⟨b, off + 0, none⟩ (hc' 0 (by omega))
  ·rw [List.getElem?_take] at hx
   split at hx
   ·obtain ⟨hj, rfl⟩ := List.getElem?_eq_some_iff.1 hx
    rw [hc' j (by omega), List.getD_eq_getElem?_getD, List.getElem?_eq_getElem hj]
    rfl
   ·cases hx
theorem open_slI {t e : TypeId} {base : Nat} {v : Value} {d : DataW H} {p : List MemPlace} (ht : P.underlying t = some (.slice e)) (he : P.underlying e = some (.int .i64)) (hc : P.cellsOf e = 1)
  (hv : Value.okWide P W .any base t v) (h : DataW.Trod enc P W 0 (fun _ => true) true t v d p) :
  ∃ A c xs, v = .slice A xs.length c ∧ Sl W (.int .i64) A xs ∧ (∀ n ∈ xs, (Lit.int .i64 n).wf = true) ∧ xs.length ≤ maxLen := by
 obtain ⟨a, len, cap, rfl⟩ := okWide_slice ht hv
 obtain ⟨fuel, hf⟩ := h
 exact open_cellsI ht he hc (v := .slice a len cap) hf
end
def laidV {H : Type} : List (String × DataW H) := [("math/bits.deBruijn64tab", Rows.laid_math_bits_deBruijn64tab)]
theorem gTab : Tryz.prog.globalNamed "math/bits.deBruijn64tab" = some 0 := by kernel_rfl
theorem tTab : (Tryz.prog.globals[0]?).map (·.type) = some 239 := by kernel_rfl
theorem cells1 : Tryz.prog.cellsOf 5 = 1 := by kernel_rfl
theorem door_met (os : Os) (args : Array Value) : laidMetH Tryz.prog laidV ((World.doorLaid Tryz.prog 400 os).forCall (fun _ _ => 0) ⟨#[], args, []⟩).memory :=
 laidMetH_of_parts3 (fuel := 8) (laidMet_of_run' 8 (by kernel_rfl) (by kernel_rfl)) (by kernel_rfl) (by kernel_rfl)
theorem tab_list {H : Type} : (Rows.laid_math_bits_deBruijn64tab : DataW H) = .agg (Lib.deBruijn64tab.map fun (n : Nat) => .lit (.int .u8 (n : Int))) := rfl
theorem tab_len : Lib.deBruijn64tab.length = 64 := by decide
theorem of_laid {W : World} (h : laidMetH Tryz.prog laidV W) : TZ W := by
 rw [MakeChecks.laidMetH_plain _ _ _ (by kernel_rfl)] at h
 obtain ⟨ps, ⟨g0, t0, cs0, f0, p0, q0, hg0, ht0, hv0, hd0, _, _⟩, _, _⟩ := h
 obtain rfl := Option.some.inj (gTab.symm.trans hg0)
 obtain rfl := Option.some.inj (tTab.symm.trans ht0)
 obtain ⟨xs, m, rfl, hx, hlen, hn, hel⟩ := DataW.trod_array Tryz.underlying239 hd0
 rw [cells1] at hel
 rw [tab_list] at hx
 simp only [Prod.mk.injEq, DataW.agg.injEq] at hx
 intro j hj
 rw [tab_len] at hj
 have h1 := hel j hj
 have hL : (xs.map (·.1))[j]? = some (.lit (.int .u8 ((Lib.deBruijn64tab.getD j 0 : Nat) : Int))) := by
  rw [← hx.1, List.getElem?_map, List.getD_eq_getElem?_getD, List.getElem?_eq_getElem (by rw [tab_len]; exact hj)]
  rfl
 rw [List.getElem?_map, Option.map_eq_some_iff] at hL
 obtain ⟨x, hxi, hxa⟩ := hL
 rw [hxi] at h1
 obtain ⟨k0, e0, f0, _⟩ := DataW.trod_int Tryz.underlying5 (show _ = some x from h1)
 rw [f0] at hxa
 simp at hxa
 subst hxa
 have v0 := World.var?_cell hg0 hv0 j
 have q0 : ((cs0.toList.drop j).take 1)[0]? = some (.int .u8 ((Lib.deBruijn64tab.getD j 0 : Nat) : Int)) := by
  have e1 := e0
  rw [Nat.mul_one] at e1
  rw [e1]
  rfl
 rw [List.getElem?_take_of_lt (by omega), List.getElem?_drop, Nat.add_zero, Array.getElem?_toList] at q0
 exact v0.trans q0
end Go.Proofs.YthijbipidbjpfaaGreatDoor
