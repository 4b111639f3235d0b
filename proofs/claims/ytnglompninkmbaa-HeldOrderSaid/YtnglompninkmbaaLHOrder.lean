/- HeldOrder: the statement holds for every list of numbers and every two numbers. -/
import Derived.Test.YtnglompninkmbaaHeldE
import Derived.Test.YtnglompninkmbaaClose
namespace Go.Proofs.Ytnglompninkmbaa
open Go.RowKit Go.Maps
open Go.ChangeShapes Go.WideShapes Go.ChangeAt Go.Joins

set_option maxRecDepth 100000 in
set_option maxHeartbeats 4000000 in
theorem heldOrder_walk (A : Option Addr) (c : Nat) (nums : List Int) (n m : Int) (w : World) (hs : Sl w (.int .i64) A nums) (_hw : ∀ x ∈ nums, (Lit.int .i64 x).wf = true) (hl0 : nums.length ≤ maxLen) (_hn : (Lit.int .i64 n).wf = true) (_hm : (Lit.int .i64 m).wf = true) :
    Calls Try.prog 3 #[.slice A nums.length c, .int .i64 n, .int .i64 m] w fun e w' => e = .returned (.bool true) ∧ Below w.heap.size w w' := by
  have hl : nums.length ≤ 9223372036854775807 := by unfold maxLen at hl0; exact hl0
  have HS := Lib.hid hs
  obtain ⟨l, hle⟩ : ∃ l, madeS nums = l := ⟨_, rfl⟩
  have hv := made_valid nums
  rw [hle] at hv
  have hl16 := hv.1
  have HV := Lib.hid hv; have HL := Lib.hid hle
  clear hs hv hle
  by_cases h2 : l.length < 2
  · have h2' : (l.length : Int) < 2 := by omega
    go_enter Try.func3, Try.ntmps3
    go_wp2_with fail
    refine (made_any _ _ _ _ HS.out hl).mono ?_
    rw [HL.out]
    rintro e w1 ⟨A1, c1, rfl, hc1, hb1⟩
    go_wp2_with fail
    refine (awake_any _).mono ?_
    rintro e w2 ⟨rfl, hb2⟩
    go_wp2_with fail
    go_ret
    exact ⟨rfl, (by repeat' (first | with_reducible exact Below.refl _ _ | with_reducible assumption | with_reducible apply Below.drew | with_reducible apply below_drewN | with_reducible apply Below.alloc | with_reducible apply Below.setCell | (with_reducible refine Below.trans ?_ (Below.mono (by assumption) ?_)) | (simp; done) | (simp; omega) | omega | with_reducible apply le_size_alloc | with_reducible apply le_size_drewN | with_reducible apply le_size_drew | with_reducible apply le_size_setCell | refine Nat.le_trans ?_ (Below.size (by assumption))))⟩
  · have h2' : (2 : Int) ≤ l.length := by omega
    obtain ⟨i, hi⟩ : ∃ i : Nat, n % l.length = (i : Int) := ⟨(n % l.length).toNat, by have := Int.emod_nonneg n (show (l.length : Int) ≠ 0 by omega); omega⟩
    have hi1 : i < l.length := by have := Int.emod_lt_of_pos n (show (0 : Int) < l.length by omega); omega
    obtain ⟨j, hj⟩ : ∃ j : Nat, m % ((l.length : Int) - 1) = (j : Int) := ⟨(m % ((l.length : Int) - 1)).toNat, by have := Int.emod_nonneg m (show ((l.length : Int) - 1) ≠ 0 by omega); omega⟩
    have hj1 : j < l.length - 1 := by have := Int.emod_lt_of_pos m (show (0 : Int) < (l.length : Int) - 1 by omega); omega
    obtain ⟨k, hk⟩ : ∃ k : Nat, ((i : Int) + 1 + j) % l.length = (k : Int) := ⟨(((i : Int) + 1 + j) % l.length).toNat, by have := Int.emod_nonneg ((i : Int) + 1 + j) (show (l.length : Int) ≠ 0 by omega); omega⟩
    have hk1 : k < l.length := by have := Int.emod_lt_of_pos ((i : Int) + 1 + j) (show (0 : Int) < l.length by omega); omega
    have hne : i ≠ k := by
      intro e
      subst e
      have : ((i : Int) + 1 + j) % l.length = ((i : Int) + 1 + j) ∨ ((i : Int) + 1 + j) % l.length = ((i : Int) + 1 + j) - l.length := by
        by_cases h : (i : Int) + 1 + j < l.length
        · exact .inl (Int.emod_eq_of_lt (by omega) h)
        · right
          rw [← Int.sub_emod_right]
          exact Int.emod_eq_of_lt (by omega) (by omega)
      omega
    obtain ⟨x, hx⟩ : ∃ x, l[i]? = some x := ⟨_, List.getElem?_eq_getElem hi1⟩
    obtain ⟨y, hy⟩ : ∃ y, l[k]? = some y := ⟨_, List.getElem?_eq_getElem hk1⟩
    have hxy : x.1 ≠ y.1 := by
      obtain ⟨_, rfl⟩ := List.getElem?_eq_some_iff.1 hx
      obtain ⟨_, rfl⟩ := List.getElem?_eq_some_iff.1 hy
      have hp := List.pairwise_iff_getElem.1 HV.out.2.2
      rcases Nat.lt_or_gt_of_ne hne with h | h
      · exact (hp i k hi1 hk1 h).1
      · exact fun e => (hp k i hk1 hi1 h).1 e.symm
    have r1 := remS_at HV.out hx
    have r2 := remS_at HV.out hy
    obtain ⟨a, ha⟩ : ∃ a, l.filter (fun z => decide (z.1 ≠ x.1)) = a := ⟨_, rfl⟩
    obtain ⟨d, hd⟩ : ∃ d, l.filter (fun z => decide (z.1 ≠ y.1)) = d := ⟨_, rfl⟩
    have va : Valid a := ha ▸ HV.out.sub List.filter_sublist
    have vd : Valid d := hd ▸ HV.out.sub List.filter_sublist
    have ya : y ∈ a := by rw [← ha, List.mem_filter]; exact ⟨List.mem_of_getElem? hy, by simpa using fun e => hxy e.symm⟩
    have xd : x ∈ d := by rw [← hd, List.mem_filter]; exact ⟨List.mem_of_getElem? hx, by simpa using hxy⟩
    obtain ⟨ka, hka⟩ := List.getElem?_of_mem ya
    obtain ⟨id, hid'⟩ := List.getElem?_of_mem xd
    have r3 := remS_at va hka
    have r4 := remS_at vd hid'
    have hla := rem_len HV.out hx
    rw [ha] at r1 hla
    rw [hd] at r2
    have hlb := rem_len va hka
    obtain ⟨b, hb⟩ : ∃ b, a.filter (fun z => decide (z.1 ≠ y.1)) = b := ⟨_, rfl⟩
    have hbd : d.filter (fun z => decide (z.1 ≠ x.1)) = b := by
      rw [← hb, ← ha, ← hd, List.filter_filter, List.filter_filter]
      congr 1
      funext z
      exact Bool.and_comm _ _
    rw [hb] at r3 hlb
    rw [hbd] at r4
    have hl16a : a.length ≤ 16 := va.1
    have hl16d : d.length ≤ 16 := vd.1
    have hlen : b.length = l.length - 2 := by omega
    have R1 := Lib.hid r1; have R2 := Lib.hid r2; have R3 := Lib.hid r3; have R4 := Lib.hid r4; have HX := Lib.hid hx; have HY := Lib.hid hy; have HI := Lib.hid hi; have HJ := Lib.hid hj; have HLEN := Lib.hid hlen
    have i1 : (i : Int) < l.length := by omega
    have k1 : (k : Int) < l.length := by omega
    clear r1 r2 r3 r4 hx hy hi hj ha hd hb hbd va vd ya xd hka hid' hla hlb hlen hxy hne
    have heq := fun W => eq_wr W x x
    have heq2 := fun W => eq_wr W y y
    rw [decide_eq_true rfl] at heq heq2
    go_enter Try.func3, Try.ntmps3
    go_wp2_with fail
    refine (made_any _ _ _ _ HS.out hl).mono ?_
    rw [HL.out]
    rintro e w1 ⟨A1, c1, rfl, hc1, hb1⟩
    have H1 := Lib.hid hc1
    obtain ⟨bb, off, x', rfl, hbl, hx', p0, p1, p2⟩ := hc1.1.at_ hi1
    obtain rfl : x' = x := by rw [HX.out] at hx'; injection hx' with e; exact e.symm
    obtain ⟨bb', off', y', e', hbl', hy', q0, q1, q2⟩ := hc1.1.at_ hk1
    obtain rfl : y' = y := by rw [HY.out] at hy'; injection hy' with e; exact e.symm
    injection e' with e'
    injection e' with e1 e2
    subst e1 e2
    clear hx' hy' hbl' hc1
    go_wp2_with fail
    with_reducible refine (Mod_any _ _ _ (by omega) (by omega)).mono ?_
    rw [HI.out]
    rintro e w' ⟨rfl, rfl⟩
    go_wp2_with fail
    with_reducible refine (Mod_any _ _ _ (by omega) (by omega)).mono ?_
    rw [HJ.out]
    rintro e w' ⟨rfl, rfl⟩
    go_wp2_with fail
    refine (Remove_any (some ⟨bb, off, none⟩) c1 l x'.1 w1 (H1.out) (by omega)).mono ?_
    unfold RemPost
    rw [R1.out]
    rintro e w2 ⟨A2, c2, rfl, hc2, hb2⟩
    have H2 := Lib.hid hc2
    clear hc2
    have BL2 : Below w1.heap.size w1 w2 := hb2
    obtain ⟨V2, hV2⟩ : ∃ V, w2.alloc (.cells #[.int .i64 x'.1, .int .i64 x'.2.1, .int .i64 x'.2.2] 28) = V := ⟨_, rfl⟩
    have BLV2 : Below w1.heap.size w1 V2 := by rw [← hV2]; exact BL2.alloc BL2.size _
    have BV2 : Below w2.heap.size w2 V2 := by rw [← hV2]; exact (Below.refl _ _).alloc (Nat.le_refl _) _
    have kb2 : Blk V2 w2.heap.size 28 #[.int .i64 x'.1, .int .i64 x'.2.1, .int .i64 x'.2.2] := by rw [← hV2]; exact Blk.new_ rfl rfl
    have p02 := cell_keep BLV2 p0 hbl
    have p12 := cell_keep BLV2 p1 hbl
    have p22 := cell_keep BLV2 p2 hbl
    have q02 := cell_keep BLV2 q0 hbl
    have q12 := cell_keep BLV2 q1 hbl
    have q22 := cell_keep BLV2 q2 hbl
    go_wp2_with fail
    clear hV2
    clear p02 p12 p22 q02 q12 q22
    refine (Remove_any A2 c2 a y'.1 V2 (H2.out.ext BV2) (by omega)).mono ?_
    unfold RemPost
    rw [R3.out]
    rintro e w3 ⟨A3, c3, rfl, hc3, hb3⟩
    have H3 := Lib.hid hc3
    clear hc3
    have BL3 : Below w1.heap.size w1 w3 := BLV2.trans (hb3.mono BLV2.size)
    obtain ⟨V3, hV3⟩ : ∃ V, w3.alloc (.cells #[.int .i64 y'.1, .int .i64 y'.2.1, .int .i64 y'.2.2] 28) = V := ⟨_, rfl⟩
    have BLV3 : Below w1.heap.size w1 V3 := by rw [← hV3]; exact BL3.alloc BL3.size _
    have BV3 : Below w3.heap.size w3 V3 := by rw [← hV3]; exact (Below.refl _ _).alloc (Nat.le_refl _) _
    have kb3 : Blk V3 w3.heap.size 28 #[.int .i64 y'.1, .int .i64 y'.2.1, .int .i64 y'.2.2] := by rw [← hV3]; exact Blk.new_ rfl rfl
    have p03 := cell_keep BLV3 p0 hbl
    have p13 := cell_keep BLV3 p1 hbl
    have p23 := cell_keep BLV3 p2 hbl
    have q03 := cell_keep BLV3 q0 hbl
    have q13 := cell_keep BLV3 q1 hbl
    have q23 := cell_keep BLV3 q2 hbl
    go_wp2_with fail
    clear hV3
    clear p03 p13 p23 q03 q13 q23
    refine (Remove_any (some ⟨bb, off, none⟩) c1 l y'.1 V3 (H1.out.ext BLV3) (by omega)).mono ?_
    unfold RemPost
    rw [R2.out]
    rintro e w4 ⟨A4, c4, rfl, hc4, hb4⟩
    have H4 := Lib.hid hc4
    clear hc4
    have BL4 : Below w1.heap.size w1 w4 := BLV3.trans (hb4.mono BLV3.size)
    obtain ⟨V4, hV4⟩ : ∃ V, w4.alloc (.cells #[.int .i64 y'.1, .int .i64 y'.2.1, .int .i64 y'.2.2] 28) = V := ⟨_, rfl⟩
    have BLV4 : Below w1.heap.size w1 V4 := by rw [← hV4]; exact BL4.alloc BL4.size _
    have BV4 : Below w4.heap.size w4 V4 := by rw [← hV4]; exact (Below.refl _ _).alloc (Nat.le_refl _) _
    have kb4 : Blk V4 w4.heap.size 28 #[.int .i64 y'.1, .int .i64 y'.2.1, .int .i64 y'.2.2] := by rw [← hV4]; exact Blk.new_ rfl rfl
    have p04 := cell_keep BLV4 p0 hbl
    have p14 := cell_keep BLV4 p1 hbl
    have p24 := cell_keep BLV4 p2 hbl
    have q04 := cell_keep BLV4 q0 hbl
    have q14 := cell_keep BLV4 q1 hbl
    have q24 := cell_keep BLV4 q2 hbl
    go_wp2_with fail
    clear hV4
    clear p04 p14 p24 q04 q14 q24
    refine (Remove_any A4 c4 d x'.1 V4 (H4.out.ext BV4) (by omega)).mono ?_
    unfold RemPost
    rw [R4.out]
    rintro e w5 ⟨A5, c5, rfl, hc5, hb5⟩
    have H5 := Lib.hid hc5
    clear hc5
    have BL5 : Below w1.heap.size w1 w5 := BLV4.trans (hb5.mono BLV4.size)
    obtain ⟨V5, hV5⟩ : ∃ V, w5.alloc (.cells #[.int .i64 x'.1, .int .i64 x'.2.1, .int .i64 x'.2.2] 28) = V := ⟨_, rfl⟩
    have BLV5 : Below w1.heap.size w1 V5 := by rw [← hV5]; exact BL5.alloc BL5.size _
    have BV5 : Below w5.heap.size w5 V5 := by rw [← hV5]; exact (Below.refl _ _).alloc (Nat.le_refl _) _
    have kb5 : Blk V5 w5.heap.size 28 #[.int .i64 x'.1, .int .i64 x'.2.1, .int .i64 x'.2.2] := by rw [← hV5]; exact Blk.new_ rfl rfl
    have p05 := cell_keep BLV5 p0 hbl
    have p15 := cell_keep BLV5 p1 hbl
    have p25 := cell_keep BLV5 p2 hbl
    have q05 := cell_keep BLV5 q0 hbl
    have q15 := cell_keep BLV5 q1 hbl
    have q25 := cell_keep BLV5 q2 hbl
    go_wp2_with fail
    clear hV5
    have z55 : Below V4.heap.size V4 V5 := hb5.trans (BV5.mono hb5.size)
    have z44 : Below V3.heap.size V3 V4 := hb4.trans (BV4.mono hb4.size)
    have z45 : Below V3.heap.size V3 V5 := z44.trans (z55.mono z44.size)
    have z33 : Below V2.heap.size V2 V3 := hb3.trans (BV3.mono hb3.size)
    have z35 : Below V2.heap.size V2 V5 := z33.trans (z45.mono z33.size)
    have zl2 : w2.heap.size < V5.heap.size := (kb2.below_ z35 kb2.lt).lt
    have u20 : V5.cell? ⟨w2.heap.size, 0, none⟩ = some (.int .i64 x'.1) := ((kb2.below_ z35 kb2.lt).cell_ 0).trans (by simp)
    have u21 : V5.cell? ⟨w2.heap.size, 1, none⟩ = some (.int .i64 x'.2.1) := ((kb2.below_ z35 kb2.lt).cell_ 1).trans (by simp)
    have u22 : V5.cell? ⟨w2.heap.size, 2, none⟩ = some (.int .i64 x'.2.2) := ((kb2.below_ z35 kb2.lt).cell_ 2).trans (by simp)
    have zl3 : w3.heap.size < V5.heap.size := (kb3.below_ z45 kb3.lt).lt
    have u30 : V5.cell? ⟨w3.heap.size, 0, none⟩ = some (.int .i64 y'.1) := ((kb3.below_ z45 kb3.lt).cell_ 0).trans (by simp)
    have u31 : V5.cell? ⟨w3.heap.size, 1, none⟩ = some (.int .i64 y'.2.1) := ((kb3.below_ z45 kb3.lt).cell_ 1).trans (by simp)
    have u32 : V5.cell? ⟨w3.heap.size, 2, none⟩ = some (.int .i64 y'.2.2) := ((kb3.below_ z45 kb3.lt).cell_ 2).trans (by simp)
    have zl4 : w4.heap.size < V5.heap.size := (kb4.below_ z55 kb4.lt).lt
    have u40 : V5.cell? ⟨w4.heap.size, 0, none⟩ = some (.int .i64 y'.1) := ((kb4.below_ z55 kb4.lt).cell_ 0).trans (by simp)
    have u41 : V5.cell? ⟨w4.heap.size, 1, none⟩ = some (.int .i64 y'.2.1) := ((kb4.below_ z55 kb4.lt).cell_ 1).trans (by simp)
    have u42 : V5.cell? ⟨w4.heap.size, 2, none⟩ = some (.int .i64 y'.2.2) := ((kb4.below_ z55 kb4.lt).cell_ 2).trans (by simp)
    have zl5 : w5.heap.size < V5.heap.size := kb5.lt
    have u50 : V5.cell? ⟨w5.heap.size, 0, none⟩ = some (.int .i64 x'.1) := (kb5.cell_ 0).trans (by simp)
    have u51 : V5.cell? ⟨w5.heap.size, 1, none⟩ = some (.int .i64 x'.2.1) := (kb5.cell_ 1).trans (by simp)
    have u52 : V5.cell? ⟨w5.heap.size, 2, none⟩ = some (.int .i64 x'.2.2) := (kb5.cell_ 2).trans (by simp)
    have zbb : bb < V5.heap.size := Nat.lt_of_lt_of_le hbl BLV5.size
    have HB3 : Hid (SW V5 A3 b) := H3.out.1.ext (BV3.trans (z45.mono BV3.size))
    have HB5 : Hid (SW V5 A5 b) := H5.out.1.ext BV5
    have HLAST : Hid (Below w.heap.size w V5) := hb1.trans (BLV5.mono hb1.size)
    clear z35 z45 z55 z44 z33 kb2 kb3 kb4 kb5 hb2 hb3 hb4 hb5 BL2 BL3 BL4 BL5 BLV2 BLV3 BLV4 BLV5 BV2 BV3 BV4 BV5 p0 p1 p2 q0 q1 q2
    have lb : b.length ≤ 1000 := by have := HLEN.out; omega
    have hle2 : (b.length : Int) = (l.length : Int) - 2 := by have := HLEN.out; omega
    have hwr : IntKind.i64.wrap ((l.length : Int) - 2) = (l.length : Int) - 2 := IntWalk.i64_in _ (by omega)
    go_region_held3 (fun W => W.cell? ⟨w2.heap.size, 0, none⟩ = some (.int .i64 x'.1) ∧ W.cell? ⟨w2.heap.size, 1, none⟩ = some (.int .i64 x'.2.1) ∧ W.cell? ⟨w2.heap.size, 2, none⟩ = some (.int .i64 x'.2.2) ∧ W.cell? ⟨w3.heap.size, 0, none⟩ = some (.int .i64 y'.1) ∧ W.cell? ⟨w3.heap.size, 1, none⟩ = some (.int .i64 y'.2.1) ∧ W.cell? ⟨w3.heap.size, 2, none⟩ = some (.int .i64 y'.2.2) ∧ W.cell? ⟨w4.heap.size, 0, none⟩ = some (.int .i64 y'.1) ∧ W.cell? ⟨w4.heap.size, 1, none⟩ = some (.int .i64 y'.2.1) ∧ W.cell? ⟨w4.heap.size, 2, none⟩ = some (.int .i64 y'.2.2) ∧ W.cell? ⟨w5.heap.size, 0, none⟩ = some (.int .i64 x'.1) ∧ W.cell? ⟨w5.heap.size, 1, none⟩ = some (.int .i64 x'.2.1) ∧ W.cell? ⟨w5.heap.size, 2, none⟩ = some (.int .i64 x'.2.2) ∧ W.cell? ⟨bb, off + i * 3, none⟩ = some (.int .i64 x'.1) ∧ W.cell? ⟨bb, off + i * 3 + 1, none⟩ = some (.int .i64 x'.2.1) ∧ W.cell? ⟨bb, off + i * 3 + 2, none⟩ = some (.int .i64 x'.2.2) ∧ W.cell? ⟨bb, off + k * 3, none⟩ = some (.int .i64 y'.1) ∧ W.cell? ⟨bb, off + k * 3 + 1, none⟩ = some (.int .i64 y'.2.1) ∧ W.cell? ⟨bb, off + k * 3 + 2, none⟩ = some (.int .i64 y'.2.2))
      (refine ⟨?_, ?_, ?_, ?_, ?_, ?_, ?_, ?_, ?_, ?_, ?_, ?_, ?_, ?_, ?_, ?_, ?_, ?_⟩ <;> (refine cell_keep (B := V5.heap.size) (a := V5) (by repeat' (first | with_reducible exact Below.refl _ _ | with_reducible assumption | with_reducible apply Below.drew | with_reducible apply below_drewN | with_reducible apply Below.alloc | with_reducible apply Below.setCell | (with_reducible refine Below.trans ?_ (Below.mono (by assumption) ?_)) | (simp; done) | (simp; omega) | omega | with_reducible apply le_size_alloc | with_reducible apply le_size_drewN | with_reducible apply le_size_drew | with_reducible apply le_size_setCell | refine Nat.le_trans ?_ (Below.size (by assumption)))) (by assumption) (by assumption)))
      (first | (go_at_call 13; (with_reducible refine (SameWrites_any A3 A5 c3 c5 b b _ ?_ ?_ lb lb).mono ?_); (exact HB3.out.ext (by repeat' (first | with_reducible exact Below.refl _ _ | with_reducible assumption | with_reducible apply Below.drew | with_reducible apply below_drewN | with_reducible apply Below.alloc | with_reducible apply Below.setCell | (with_reducible refine Below.trans ?_ (Below.mono (by assumption) ?_)) | (simp; done) | (simp; omega) | omega | with_reducible apply le_size_alloc | with_reducible apply le_size_drewN | with_reducible apply le_size_drew | with_reducible apply le_size_setCell | refine Nat.le_trans ?_ (Below.size (by assumption))))); (exact HB5.out.ext (by repeat' (first | with_reducible exact Below.refl _ _ | with_reducible assumption | with_reducible apply Below.drew | with_reducible apply below_drewN | with_reducible apply Below.alloc | with_reducible apply Below.setCell | (with_reducible refine Below.trans ?_ (Below.mono (by assumption) ?_)) | (simp; done) | (simp; omega) | omega | with_reducible apply le_size_alloc | with_reducible apply le_size_drewN | with_reducible apply le_size_drew | with_reducible apply le_size_setCell | refine Nat.le_trans ?_ (Below.size (by assumption))))); rw [decide_eq_true (show b = b from rfl)]; rintro e w6 ⟨rfl, hb6⟩) | (go_at_call 10; (with_reducible refine (awake_any _).mono ?_); rintro e w7 ⟨rfl, hb7⟩))
    all_goals
      have hbE : Below V5.heap.size V5 w7 := (by repeat' (first | with_reducible exact Below.refl _ _ | with_reducible assumption | with_reducible apply Below.drew | with_reducible apply below_drewN | with_reducible apply Below.alloc | with_reducible apply Below.setCell | (with_reducible refine Below.trans ?_ (Below.mono (by assumption) ?_)) | (simp; done) | (simp; omega) | omega | with_reducible apply le_size_alloc | with_reducible apply le_size_drewN | with_reducible apply le_size_drew | with_reducible apply le_size_setCell | refine Nat.le_trans ?_ (Below.size (by assumption))))
      go_wp2_with fail
      go_ret
      exact ⟨rfl, HLAST.out.trans (hbE.mono HLAST.out.size)⟩


set_option maxRecDepth 100000 in
theorem heldOrder_lifted (os : Os) (started : os.Started) (H : Type) (enc : TypeId × Value → H) :
    ReturnsInHanded {} Try.checked os 3 .any (Rows.heldOrderSpec.pre6 enc Try.prog Try.f3 Rows.heldOrderRow.domain false) (Rows.heldOrderSpec.post enc Try.prog Try.f3 false true false false) := by
  refine returnsInHanded_of_change (C := Try.checked) own started (by kernel_rfl) Try.func3
    (ChangeSpec.witness6 (enc := enc) (C := Try.checked) false ⟨#[], #[.slice none 0 0, .int .i64 0, .int .i64 0], []⟩ 8 (by kernel_rfl) (by kernel_rfl) (by kernel_rfl) (by kernel_rfl)) ?_
  intro W base args ds gs before hval0 hW hcnd _
  have hval : ∀ (j : Nat) t v, Try.f3.params[j]? = some t → args[j]? = some v → Value.okWide Try.prog W .any base t v := hval0
  have hW' := hW
  obtain ⟨p, q, hA0, hV, rfl, hfz, hnd⟩ := hW
  have hA : DataW.TrodAll enc Try.prog W 0 (fun _ => true) true Try.f3.params.toList args.toList ds p := hA0
  rw [Try.params3] at hA hval
  obtain ⟨v0, vs0, d0, ds0, p0, q0, hargs, rfl, rfl, h0, r0⟩ := trodAll_cons hA
  obtain ⟨v1, vs1, d1, ds1, p1, q1, rfl, rfl, rfl, h1, r1⟩ := trodAll_cons r0
  obtain ⟨v2, vs2, d2, ds2, p2, q2, rfl, rfl, rfl, h2, r2⟩ := trodAll_cons r1
  obtain ⟨rfl, rfl, rfl⟩ := trodAll_nil r2
  obtain rfl : args = #[v0, v1, v2] := by cases args; simp_all
  obtain ⟨rfl, rfl⟩ := trodVars_none hV
  obtain ⟨A0, k0, a0, rfl, s0, w0, l0⟩ := open_slI Try.underlying22 Try.underlying3 (by kernel_rfl) (hval 0 22 v0 rfl rfl) h0
  obtain ⟨a1, rfl, rfl, rfl, w1⟩ := open_int Try.underlying3 (hval 1 3 v1 rfl rfl) h1
  obtain ⟨a2, rfl, rfl, rfl, w2⟩ := open_int Try.underlying3 (hval 2 3 v2 rfl rfl) h2
  clear hA0 hval0
  refine (heldOrder_walk A0 k0 a0 a1 a2 W s0 w0 l0 w1 w2).mono fun e W' ⟨he, hb⟩ => ⟨_, he, ?_⟩
  exact law_post laidOut (s := Rows.heldOrderSpec) (B := 4) rfl rfl Try.underlying4 (by decide +kernel) hW' rfl hb

theorem heldOrder_holds : Rows.HeldOrderSaid :=
  OpenClaim.holds_of_wide 3 Try.f3 rfl rfl rfl rfl rfl rfl rfl ⟨rfl, rfl, rfl, rfl, rfl⟩ rfl rfl rfl rfl rfl (by kernel_rfl) Try.func3 (by kernel_rfl)
    (of_decide_eq_true (by kernel_rfl)) (by unfold Func.isWrapper; first | (rw [if_pos (by decide +kernel)]; kernel_rfl) | (rw [if_neg (by decide +kernel)]; exact ⟨rfl, rfl⟩))
    (fun os started H enc _ => heldOrder_lifted os started H enc)

end Go.Proofs.Ytnglompninkmbaa
