/- ScanOne: a step moves one frame at most, keeps the order and the references of all others, and never finds a victim that is referenced. Written by gen_lsone.py. -/
import Derived.Test.YtiobbdfkimpfbaaLSKnown
import Derived.Test.YtiobbdfkimpfbaaMgF
import Derived.BigQuiet
namespace Go.Proofs.Ytiobbdfkimpfbaa
set_option linter.unusedSimpArgs false
set_option linter.unusedVariables false
open Go.RowKit Go.Maps
open Go.ChangeShapes Go.WideShapes Go.ChangeAt Go.Joins

/-- A list that the region has made. -/
def NewS (l : List Int) (v : Value) (w : World) : Prop := ∃ A c, v = .slice A l.length c ∧ Sl w (.int .i64) A l
theorem NewS.lasts (l : List Int) : (Fct.has (NewS l)).lasts := fun _ _ _ ⟨A, c, e, h⟩ hb => ⟨A, c, e, h.ext hb⟩
theorem same_wo (A B : Option Addr) (c d : Nat) (xs ys : List Int) (w : World) (e : xs = ys) (ha : Sl w (.int .i64) A xs) (hb : Sl w (.int .i64) B ys) (l1 : xs.length ≤ 1000) :
    Calls Try.prog 20 #[.slice A xs.length c, .slice B ys.length d] w fun e w' => e = .returned (.bool true) ∧ Below w.heap.size w w' := by
  subst e
  exact same_lit A B c d _ xs w rfl ha hb l1
theorem wo_small {f : Int} {l : List Int} (h : l.length ≤ 1000) : (wo f l).length ≤ 1000 := Nat.le_trans (wo_len _ _) h

set_option maxRecDepth 100000 in
set_option maxHeartbeats 32000000 in
theorem scanOne_walk (A : Option Addr) (c : Nat) (nums : List Int) (tg : Int) (w : World) (hs : Sl w (.int .i64) A nums) (_hw : ∀ x ∈ nums, (Lit.int .i64 x).wf = true) (hl0 : nums.length ≤ maxLen) (_hw2 : (Lit.int .i64 tg).wf = true) :
    Calls Try.prog 6 #[.slice A nums.length c, .int .i64 tg] w fun e w' => e = .returned (.bool true) ∧ Below w.heap.size w w' := by
  have hl : nums.length ≤ 9223372036854775807 := by unfold maxLen at hl0; exact hl0
  have HS := Lib.hid hs
  clear hs
  go_enter Try.func6, Try.ntmps6
  go_wp2_with fail
  refine (scanKnown_walk _).mono ?_
  rintro e w1 ⟨rfl, h1⟩
  have HS1 := Lib.hid (HS.out.ext h1)
  have HB1 := Lib.hid h1
  clear HS h1
  go_wp2_with fail
  refine (madeZ_any _ _ _ _ HS1.out hl).mono ?_
  rintro e w2 ⟨A1, c1, A2, c2, A3, c3, xs, ys, rs, us0, rfl, o2, hmz, h2⟩
  have hck := hmz.chk
  have hsz := hmz.size
  have hrl := hmz.len
  have hm2 := o2.memV hck
  have HB2 := Lib.hid (HB1.out.trans (h2.mono HB1.out.size))
  obtain ⟨t, ht⟩ : ∃ t, tg % 12 = t := ⟨_, rfl⟩
  have t0 : 0 ≤ t := by omega
  have t1 : t < 12 := by omega
  have HT := Lib.hid ht
  have hone := step_one (T := t) hck
  have hsnd : sndS xs ys rs (tgtB t) = 0 := by
    unfold sndS
    rw [hck, if_neg (by simp), show tgtB t = true by unfold tgtB; simp; omega]
    rfl
  have hful : fullS t xs ys rs = ⟨(stepS t xs ys rs).1, (stepS t xs ys rs).2.1, (stepS t xs ys rs).2.2.1, (stepS t xs ys rs).2.2.2.1, (stepS t xs ys rs).2.2.2.2, 0⟩ := by unfold fullS; rw [hsnd, if_neg (by simp)]
  generalize stepS t xs ys rs = R at hone hful
  obtain ⟨wh, f, us, vs, ss⟩ := R
  dsimp only at hone hful
  have HF := Lib.hid hful
  have hln := hone.len
  have hsl := hone.sl
  have HCA := Lib.hid hone.chk
  have hw2 : IntKind.i64.wrap ((xs.length : Int) + ys.length) = xs.length + ys.length := by rw [IntKind.wrap_i64]; omega
  have hw3 : IntKind.i64.wrap ((us.length : Int) + vs.length) = us.length + vs.length := by rw [IntKind.wrap_i64]; omega
  have hne : ((us.length : Int) + vs.length != (xs.length : Int) + ys.length) = false := by simp; omega
  have hss20 : ((ss.length : Int) != 20) = false := by simp; omega
  have rl0 : 20 ≤ rs.length := by omega
  have rl1 : rs.length ≤ 20 := by omega
  have sl0 : 20 ≤ ss.length := by omega
  have sl1 : ss.length ≤ 20 := by omega
  have ul : us.length + vs.length ≤ 20 := by omega
  have wlo := hone.lo
  have whi := hone.hi
  clear HB1 HS1 h2 o2 hmz ht hful hsnd hck hln hsl hrl
  obtain ⟨V, hV⟩ : ∃ V, w2.alloc (.cells #[.slice A1 xs.length c1, .slice A2 ys.length c2, .slice A3 rs.length c3] 25) = V := ⟨_, rfl⟩
  have hbV : Below w2.heap.size w2 V := by rw [← hV]; exact (Below.refl _ _).alloc (Nat.le_refl _) _
  have HKV : Hid (Blk V w2.heap.size 25 #[.slice A1 xs.length c1, .slice A2 ys.length c2, .slice A3 rs.length c3]) := by show Blk _ _ _ _; rw [← hV]; exact Blk.new_ rfl rfl
  have HMV := Lib.hid (hm2.ext hbV)
  have HBV := Lib.hid (HB2.out.trans (hbV.mono HB2.out.size))
  have q0 : V.cell? ⟨w2.heap.size, 0, none⟩ = some (.slice A1 xs.length c1) := (HKV.out.cell_ 0).trans (by simp)
  have q1 : V.cell? ⟨w2.heap.size, 1, none⟩ = some (.slice A2 ys.length c2) := (HKV.out.cell_ 1).trans (by simp)
  have q2 : V.cell? ⟨w2.heap.size, 2, none⟩ = some (.slice A3 rs.length c3) := (HKV.out.cell_ 2).trans (by simp)
  have HV := Lib.hid hV
  clear hV hbV HB2 hm2
  go_wp2_with (first | (rw [HV.out]) | (go_at_call 31; refine (Mod_any _ _ _ (by omega) (by omega)).mono ?_; rw [HT.out]; rintro e w' ⟨rfl, rfl⟩))
  refine (Step_any A1 A2 A3 c1 c2 c3 xs ys rs t _ HMV.out).mono ?_
  unfold SQ
  rw [HF.out]
  rintro e x3 ⟨B1, B2, B3, d1, d2, d3, rfl, hm3, hn3, h3⟩
  dsimp only at hm3 hn3 ⊢
  have zV := HKV.out.lt
  have zV3 := h3.size
  have HM3 := Lib.hid (HMV.out.ext h3)
  have HA3 := Lib.hid hm3
  have HB3 := Lib.hid (HBV.out.trans (h3.mono HBV.out.size))
  have HK3 := Lib.hid (HKV.out.below_ h3 HKV.out.lt)
  clear HMV HBV HKV h3 hm3 hn3 q0 q1 q2 HV HF HT
  go_wp2_with fail
  obtain ⟨W, hW⟩ : ∃ W, x3.alloc (.cells #[.slice B1 us.length d1, .slice B2 vs.length d2, .slice B3 ss.length d3] 25) = W := ⟨_, rfl⟩
  have hbW : Below x3.heap.size x3 W := by rw [← hW]; exact (Below.refl _ _).alloc (Nat.le_refl _) _
  have KA : Hid (Blk W x3.heap.size 25 #[.slice B1 us.length d1, .slice B2 vs.length d2, .slice B3 ss.length d3]) := by show Blk _ _ _ _; rw [← hW]; exact Blk.new_ rfl rfl
  have KL := Lib.hid (HK3.out.below_ hbW HK3.out.lt)
  have ML := Lib.hid (HM3.out.ext hbW)
  have MA := Lib.hid (HA3.out.ext hbW)
  have HB := Lib.hid (HB3.out.trans (hbW.mono HB3.out.size))
  have zL := KL.out.lt
  have zA := KA.out.lt
  have nLA : w2.heap.size ≠ x3.heap.size := by omega
  (try rw [hW])
  clear hW hbW HK3 HM3 HA3 HB3
  rcases (by omega : wh = 0 ∨ wh = 1 ∨ wh = 2 ∨ wh = 3) with HW | HW | HW | HW
  · subst HW
    obtain ⟨rfl, g1, g2, g3, hy0⟩ := hone.none rfl
    have e00 : ((ys.length : Int) == 0) = true := by simp [hy0]
    clear hy0
    obtain rfl := g1.symm
    obtain rfl := g2.symm
    obtain rfl := g3.symm
    clear hone
    have q0 : W.cell? ⟨w2.heap.size, 0, none⟩ = some (.slice A1 xs.length c1) := (KL.out.cell_ 0).trans (by simp)
    have q1 : W.cell? ⟨w2.heap.size, 1, none⟩ = some (.slice A2 ys.length c2) := (KL.out.cell_ 1).trans (by simp)
    have q2 : W.cell? ⟨w2.heap.size, 2, none⟩ = some (.slice A3 rs.length c3) := (KL.out.cell_ 2).trans (by simp)
    have p0 : W.cell? ⟨x3.heap.size, 0, none⟩ = some (.slice B1 xs.length d1) := (KA.out.cell_ 0).trans (by simp)
    have p1 : W.cell? ⟨x3.heap.size, 1, none⟩ = some (.slice B2 ys.length d2) := (KA.out.cell_ 1).trans (by simp)
    have p2 : W.cell? ⟨x3.heap.size, 2, none⟩ = some (.slice B3 rs.length d3) := (KA.out.cell_ 2).trans (by simp)
    go_wp2_with fail
    refine (MA.out.check d1 d2 d3).mono ?_
    rw [HCA.out]
    rintro e x5 ⟨rfl, h5⟩
    clear q0 q1 q2 p0 p1 p2
    have KL_ := Lib.hid (KL.out.below_ h5 KL.out.lt); have KA_ := Lib.hid (KA.out.below_ h5 KA.out.lt); have ML_ := Lib.hid (ML.out.ext h5); have MA_ := Lib.hid (MA.out.ext h5); have HB_ := Lib.hid (HB.out.trans (h5.mono HB.out.size))
    clear KL KA ML MA HB h5
    obtain ⟨⟨KL, KA⟩, ⟨ML, MA⟩, HB⟩ := And.intro (And.intro KL_ KA_) (And.intro (And.intro ML_ MA_) HB_)
    clear KL_ KA_ ML_ MA_ HB_
    have zL := KL.out.lt
    have zA := KA.out.lt
    have q0 : x5.cell? ⟨w2.heap.size, 0, none⟩ = some (.slice A1 xs.length c1) := (KL.out.cell_ 0).trans (by simp)
    have q1 : x5.cell? ⟨w2.heap.size, 1, none⟩ = some (.slice A2 ys.length c2) := (KL.out.cell_ 1).trans (by simp)
    have q2 : x5.cell? ⟨w2.heap.size, 2, none⟩ = some (.slice A3 rs.length c3) := (KL.out.cell_ 2).trans (by simp)
    have p0 : x5.cell? ⟨x3.heap.size, 0, none⟩ = some (.slice B1 xs.length d1) := (KA.out.cell_ 0).trans (by simp)
    have p1 : x5.cell? ⟨x3.heap.size, 1, none⟩ = some (.slice B2 ys.length d2) := (KA.out.cell_ 1).trans (by simp)
    have p2 : x5.cell? ⟨x3.heap.size, 2, none⟩ = some (.slice B3 rs.length d3) := (KA.out.cell_ 2).trans (by simp)
    go_wp2_with fail
    refine (same_lists B1 B2 B3 A1 A2 A3 d1 d2 d3 c1 c2 c3 xs ys rs _ MA.out ML.out (by omega) (by omega) (by omega)).mono ?_
    rintro e x6 ⟨rfl, h6⟩
    clear q0 q1 q2 p0 p1 p2
    have KL_ := Lib.hid (KL.out.below_ h6 KL.out.lt); have KA_ := Lib.hid (KA.out.below_ h6 KA.out.lt); have ML_ := Lib.hid (ML.out.ext h6); have MA_ := Lib.hid (MA.out.ext h6); have HB_ := Lib.hid (HB.out.trans (h6.mono HB.out.size))
    clear KL KA ML MA HB h6
    obtain ⟨⟨KL, KA⟩, ⟨ML, MA⟩, HB⟩ := And.intro (And.intro KL_ KA_) (And.intro (And.intro ML_ MA_) HB_)
    clear KL_ KA_ ML_ MA_ HB_
    have zL := KL.out.lt
    have zA := KA.out.lt
    have q0 : x6.cell? ⟨w2.heap.size, 0, none⟩ = some (.slice A1 xs.length c1) := (KL.out.cell_ 0).trans (by simp)
    have q1 : x6.cell? ⟨w2.heap.size, 1, none⟩ = some (.slice A2 ys.length c2) := (KL.out.cell_ 1).trans (by simp)
    have q2 : x6.cell? ⟨w2.heap.size, 2, none⟩ = some (.slice A3 rs.length c3) := (KL.out.cell_ 2).trans (by simp)
    have p0 : x6.cell? ⟨x3.heap.size, 0, none⟩ = some (.slice B1 xs.length d1) := (KA.out.cell_ 0).trans (by simp)
    have p1 : x6.cell? ⟨x3.heap.size, 1, none⟩ = some (.slice B2 ys.length d2) := (KA.out.cell_ 1).trans (by simp)
    have p2 : x6.cell? ⟨x3.heap.size, 2, none⟩ = some (.slice B3 rs.length d3) := (KA.out.cell_ 2).trans (by simp)
    go_wp2_with fail
    go_ret
    exact ⟨by first | rfl | simp, HB.out⟩
  · subst HW
    obtain ⟨f0, f1, hwu, hwv, hoff⟩ := hone.fr (by omega)
    obtain ⟨G, rfl⟩ : ∃ G : Nat, f = G := ⟨f.toNat, by omega⟩
    have hbit := hone.bit (by omega) (by omega)
    rw [Int.toNat_natCast] at hbit
    have hG : G < 20 := by omega
    have hG0 : ¬ (20 : Int) ≤ G := by omega
    have hwg : IntKind.i64.wrap (G : Int) = G := by rw [IntKind.wrap_i64]; omega
    have HBIT := Lib.hid hbit; have HOFF := Lib.hid hoff; have HU := Lib.hid hwu; have HV := Lib.hid hwv
    clear hoff hbit hwu hwv f0 f1
    clear hone
    have q0 : W.cell? ⟨w2.heap.size, 0, none⟩ = some (.slice A1 xs.length c1) := (KL.out.cell_ 0).trans (by simp)
    have q1 : W.cell? ⟨w2.heap.size, 1, none⟩ = some (.slice A2 ys.length c2) := (KL.out.cell_ 1).trans (by simp)
    have q2 : W.cell? ⟨w2.heap.size, 2, none⟩ = some (.slice A3 rs.length c3) := (KL.out.cell_ 2).trans (by simp)
    have p0 : W.cell? ⟨x3.heap.size, 0, none⟩ = some (.slice B1 us.length d1) := (KA.out.cell_ 0).trans (by simp)
    have p1 : W.cell? ⟨x3.heap.size, 1, none⟩ = some (.slice B2 vs.length d2) := (KA.out.cell_ 1).trans (by simp)
    have p2 : W.cell? ⟨x3.heap.size, 2, none⟩ = some (.slice B3 ss.length d3) := (KA.out.cell_ 2).trans (by simp)
    go_wp2_with fail
    refine (MA.out.check d1 d2 d3).mono ?_
    rw [HCA.out]
    rintro e x5 ⟨rfl, h5⟩
    clear q0 q1 q2 p0 p1 p2
    have KL_ := Lib.hid (KL.out.below_ h5 KL.out.lt); have KA_ := Lib.hid (KA.out.below_ h5 KA.out.lt); have ML_ := Lib.hid (ML.out.ext h5); have MA_ := Lib.hid (MA.out.ext h5); have HB_ := Lib.hid (HB.out.trans (h5.mono HB.out.size))
    clear KL KA ML MA HB h5
    obtain ⟨⟨KL, KA⟩, ⟨ML, MA⟩, HB⟩ := And.intro (And.intro KL_ KA_) (And.intro (And.intro ML_ MA_) HB_)
    clear KL_ KA_ ML_ MA_ HB_
    have zL := KL.out.lt
    have zA := KA.out.lt
    have q0 : x5.cell? ⟨w2.heap.size, 0, none⟩ = some (.slice A1 xs.length c1) := (KL.out.cell_ 0).trans (by simp)
    have q1 : x5.cell? ⟨w2.heap.size, 1, none⟩ = some (.slice A2 ys.length c2) := (KL.out.cell_ 1).trans (by simp)
    have q2 : x5.cell? ⟨w2.heap.size, 2, none⟩ = some (.slice A3 rs.length c3) := (KL.out.cell_ 2).trans (by simp)
    have p0 : x5.cell? ⟨x3.heap.size, 0, none⟩ = some (.slice B1 us.length d1) := (KA.out.cell_ 0).trans (by simp)
    have p1 : x5.cell? ⟨x3.heap.size, 1, none⟩ = some (.slice B2 vs.length d2) := (KA.out.cell_ 1).trans (by simp)
    have p2 : x5.cell? ⟨x3.heap.size, 2, none⟩ = some (.slice B3 ss.length d3) := (KA.out.cell_ 2).trans (by simp)
    go_wp2_with fail
    clear q0 q1 q2 p0 p1 p2
    go_loopw [11] (fun i wr => ∃ k : Nat, k ≤ 20 ∧ i = .int .i64 k ∧ Below x5.heap.size x5 wr) (fun i _ => 20 - (intOf i).toNat)
    case atStart => exact ⟨0, by omega, rfl, Below.refl _ _⟩
    case round =>
      obtain ⟨k, hk, rfl, hb⟩ := hrel
      have HBK := Lib.hid hb
      have KL_ := Lib.hid (KL.out.below_ hb KL.out.lt); have KA_ := Lib.hid (KA.out.below_ hb KA.out.lt); have ML_ := Lib.hid (ML.out.ext hb); have MA_ := Lib.hid (MA.out.ext hb); have HB_ := Lib.hid (HB.out.trans (hb.mono HB.out.size))
      clear KL KA ML MA HB hb
      obtain ⟨⟨KL, KA⟩, ⟨ML, MA⟩, HB⟩ := And.intro (And.intro KL_ KA_) (And.intro (And.intro ML_ MA_) HB_)
      clear KL_ KA_ ML_ MA_ HB_
      have zL := KL.out.lt
      have zA := KA.out.lt
      by_cases hlt : k < 20
      · have q0 : wr.cell? ⟨w2.heap.size, 0, none⟩ = some (.slice A1 xs.length c1) := (KL.out.cell_ 0).trans (by simp)
        have q1 : wr.cell? ⟨w2.heap.size, 1, none⟩ = some (.slice A2 ys.length c2) := (KL.out.cell_ 1).trans (by simp)
        have q2 : wr.cell? ⟨w2.heap.size, 2, none⟩ = some (.slice A3 rs.length c3) := (KL.out.cell_ 2).trans (by simp)
        have p0 : wr.cell? ⟨x3.heap.size, 0, none⟩ = some (.slice B1 us.length d1) := (KA.out.cell_ 0).trans (by simp)
        have p1 : wr.cell? ⟨x3.heap.size, 1, none⟩ = some (.slice B2 vs.length d2) := (KA.out.cell_ 1).trans (by simp)
        have p2 : wr.cell? ⟨x3.heap.size, 2, none⟩ = some (.slice B3 ss.length d3) := (KA.out.cell_ 2).trans (by simp)
        obtain ⟨bR, oR, x, hAe, hbR, hx, hcR⟩ := ML.out.r.at_ (k := k) (by omega)
        obtain ⟨bS, oS, y, hBe, hbS, hy, hcS⟩ := MA.out.r.at_ (k := k) (by omega)
        subst hAe hBe
        have i1 : (k : Int) < rs.length := by omega
        have i2 : (k : Int) < ss.length := by omega
        have i3 : (k : Int) < 20 := by omega
        have hwk : IntKind.i64.wrap (k : Int) = k := by rw [IntKind.wrap_i64]; omega
        by_cases hkG : k = G
        · subst hkG
          have e0 : ((k : Int) != (k : Int)) = false := by simp
          clear hx hy
          go_wp2_with fail
          go_quiet (fail)
          go_wp2_with fail
          go_roundw
          case rel => exact ⟨k + 1, by omega, by go_num, (by have hb := HBK.out; exact (by repeat' (first | with_reducible exact Below.refl _ _ | with_reducible assumption | with_reducible apply Below.drew | with_reducible apply below_drewN | with_reducible apply Below.alloc | with_reducible apply Below.setCell | (with_reducible refine Below.trans ?_ (Below.mono (by assumption) ?_)) | (simp; done) | (simp; omega) | omega | with_reducible apply le_size_alloc | with_reducible apply le_size_drewN | with_reducible apply le_size_drew | with_reducible apply le_size_setCell | refine Nat.le_trans ?_ (Below.size (by assumption)))))⟩
          case measure => simp [intOf]; omega
        · have hyx := hy.symm.trans ((HOFF.out k (by omega)).trans hx)
          injection hyx with hyx
          subst hyx
          have e0 : ((k : Int) != (G : Int)) = true := by simp; omega
          clear hx hy
          cases y
          all_goals
            go_wp2_with fail
            go_quiet (fail)
            go_wp2_with fail
            go_roundw
            case rel => exact ⟨k + 1, by omega, by go_num, (by have hb := HBK.out; exact (by repeat' (first | with_reducible exact Below.refl _ _ | with_reducible assumption | with_reducible apply Below.drew | with_reducible apply below_drewN | with_reducible apply Below.alloc | with_reducible apply Below.setCell | (with_reducible refine Below.trans ?_ (Below.mono (by assumption) ?_)) | (simp; done) | (simp; omega) | omega | with_reducible apply le_size_alloc | with_reducible apply le_size_drewN | with_reducible apply le_size_drew | with_reducible apply le_size_setCell | refine Nat.le_trans ?_ (Below.size (by assumption)))))⟩
            case measure => simp [intOf]; omega
      · have i3 : ¬ (k : Int) < 20 := by omega
        obtain ⟨bS, oS, y, hBe, hbS, hy, hcS⟩ := MA.out.r.at_ (k := G) (by omega)
        rw [HBIT.out] at hy
        injection hy with hy
        subst hy hBe
        have iG : (G : Int) < ss.length := by omega
        have HCS0 := Lib.hid hcS; have HZS0 := Lib.hid hbS
        clear hcS hbS
        go_wp2_with fail
        refine wp_region_chain (.is ?fr1n0 :: .is ?fr1n1 :: .is ?fr1n2 :: .is ?fr1n3 :: .is ?fr1n4 :: .has (NewS (wo G us)) :: .is ?fr1n6 :: .is ?fr1n7 :: .is ?fr1n8 :: .has (NewS (wo G xs)) :: .is (.bool true) :: .is ?fr1n11 :: .is ?fr1n12 :: .is ?fr1n13 :: .is ?fr1n14 :: .is ?fr1n15 :: .has (NewS (wo G vs)) :: .is ?fr1n17 :: .is ?fr1n18 :: .is ?fr1n19 :: .has (NewS (wo G ys)) :: .is (.bool true) :: .is ?fr1n22 :: .is ?fr1n23 :: .is ?fr1n24 :: .is ?fr1n25 :: .is ?fr1n26 :: .is ?fr1n27 :: .is ?fr1n28 :: .is ?fr1n29 :: .is ?fr1n30 :: .is ?fr1n31 :: .is ?fr1n32 :: .is ?fr1n33 :: .is ?fr1n34 :: .is ?fr1n35 :: []) (by kernel_rfl) (by kernel_rfl) (by kernel_rfl) (lasts_is (lasts_is (lasts_is (lasts_is (lasts_is (lasts_has (NewS.lasts (wo G us)) (lasts_is (lasts_is (lasts_is (lasts_has (NewS.lasts (wo G xs)) (lasts_is (lasts_is (lasts_is (lasts_is (lasts_is (lasts_is (lasts_has (NewS.lasts (wo G vs)) (lasts_is (lasts_is (lasts_is (lasts_has (NewS.lasts (wo G ys)) (lasts_is (lasts_is (lasts_is (lasts_is (lasts_is (lasts_is (lasts_is (lasts_is (lasts_is (lasts_is (lasts_is (lasts_is (lasts_is (lasts_is (lasts_is lasts_nil)))))))))))))))))))))))))))))))))))) (fun W0 hb0 hz0 => ?_)
        rotate_left 30
        have bw1 : Below wr.heap.size wr W0 := (by repeat' (first | with_reducible exact Below.refl _ _ | with_reducible assumption | with_reducible apply Below.drew | with_reducible apply below_drewN | with_reducible apply Below.alloc | with_reducible apply Below.setCell | (with_reducible refine Below.trans ?_ (Below.mono (by assumption) ?_)) | (simp; done) | (simp; omega) | omega | with_reducible apply le_size_alloc | with_reducible apply le_size_drewN | with_reducible apply le_size_drew | with_reducible apply le_size_setCell | with_reducible refine Nat.le_trans ?_ (Below.size (by assumption))))
        have L_1 : Hid (Blk W0 w2.heap.size 25 #[.slice A1 xs.length c1, .slice A2 ys.length c2, .slice A3 rs.length c3]) := KL.out.below_ bw1 KL.out.lt
        have A_1 : Hid (Blk W0 x3.heap.size 25 #[.slice B1 us.length d1, .slice B2 vs.length d2, .slice (some ⟨bS, oS, none⟩) ss.length d3]) := KA.out.below_ bw1 KA.out.lt
        have ML_1 : Hid (InMem W0 A1 A2 A3 xs ys rs) := ML.out.ext bw1
        have MA_1 : Hid (InMem W0 B1 B2 (some ⟨bS, oS, none⟩) us vs ss) := MA.out.ext bw1
        have HB_1 : Hid (Below w.heap.size w W0) := HB.out.trans (bw1.mono HB.out.size)
        have qL0 : W0.cell? ⟨w2.heap.size, 0, none⟩ = some (.slice A1 xs.length c1) := (L_1.out.cell_ 0).trans (by simp)
        have qL1 : W0.cell? ⟨w2.heap.size, 1, none⟩ = some (.slice A2 ys.length c2) := (L_1.out.cell_ 1).trans (by simp)
        have qL2 : W0.cell? ⟨w2.heap.size, 2, none⟩ = some (.slice A3 rs.length c3) := (L_1.out.cell_ 2).trans (by simp)
        have zL : w2.heap.size < W0.heap.size := L_1.out.lt
        have qA0 : W0.cell? ⟨x3.heap.size, 0, none⟩ = some (.slice B1 us.length d1) := (A_1.out.cell_ 0).trans (by simp)
        have qA1 : W0.cell? ⟨x3.heap.size, 1, none⟩ = some (.slice B2 vs.length d2) := (A_1.out.cell_ 1).trans (by simp)
        have qA2 : W0.cell? ⟨x3.heap.size, 2, none⟩ = some (.slice (some ⟨bS, oS, none⟩) ss.length d3) := (A_1.out.cell_ 2).trans (by simp)
        have zA : x3.heap.size < W0.heap.size := A_1.out.lt
        refine chain_is (step_take (by rfl) ?yr1n0) ?rr1n0
        case yr1n0 =>
          intro w hbw hd
          clear hd
          go_simp
          first | done | with_reducible rfl
        (try simp only [Act.put, List.setIfInBounds_toArray, List.set_cons_zero, List.set_cons_succ, List.nil_append, List.cons_append])
        refine chain_is (step_take (by rfl) ?yr1n1) ?rr1n1
        case yr1n1 =>
          intro w hbw hd
          clear hd
          go_simp
          first | done | with_reducible rfl
        (try simp only [Act.put, List.setIfInBounds_toArray, List.set_cons_zero, List.set_cons_succ, List.nil_append, List.cons_append])
        refine chain_is (step_take (by rfl) ?yr1n2) ?rr1n2
        case yr1n2 =>
          intro w hbw hd
          clear hd
          go_simp
          first | done | with_reducible rfl
        (try simp only [Act.put, List.setIfInBounds_toArray, List.set_cons_zero, List.set_cons_succ, List.nil_append, List.cons_append])
        refine chain_is (step_take (by rfl) ?yr1n3) ?rr1n3
        case yr1n3 =>
          intro w hbw hd
          have r0 : w.cell? ⟨x3.heap.size, 0, none⟩ = some (.slice B1 us.length d1) := cell_keep hbw qA0 zA
          clear hd
          go_simp
          first | done | with_reducible rfl
        (try simp only [Act.put, List.setIfInBounds_toArray, List.set_cons_zero, List.set_cons_succ, List.nil_append, List.cons_append])
        refine chain_is (step_take (by rfl) ?yr1n4) ?rr1n4
        case yr1n4 =>
          intro w hbw hd
          clear hd
          go_simp
          first | done | with_reducible rfl
        (try simp only [Act.put, List.setIfInBounds_toArray, List.set_cons_zero, List.set_cons_succ, List.nil_append, List.cons_append])
        refine chain_has ?sr1n5 (fun vr1n5 => ?rr1n5)
        case sr1n5 =>
          intro w hbw hd K Q' hK
          clear hd
          go_simp
          refine (withoutZ_any B1 d1 us G _ ((MA_1.out.a).ext hbw) (by omega)).mono ?_
          rintro e x ⟨A5, c5, rfl, ho5, hx⟩
          go_wp2_with fail
          refine hK.out (.slice A5 (wo G us).length c5) _ _ ?_ ?_ ?_
          · (simp only [Act.put, List.setIfInBounds_toArray, List.set_cons_zero, List.set_cons_succ, List.nil_append, List.cons_append])
          · exact (by repeat' (first | with_reducible exact Below.refl _ _ | with_reducible assumption | with_reducible apply Below.drew | with_reducible apply below_drewN | with_reducible apply Below.alloc | with_reducible apply Below.setCell | (with_reducible refine Below.trans ?_ (Below.mono (by assumption) ?_)) | (simp; done) | (simp; omega) | omega | with_reducible apply le_size_alloc | with_reducible apply le_size_drewN | with_reducible apply le_size_drew | with_reducible apply le_size_setCell | with_reducible refine Nat.le_trans ?_ (Below.size (by assumption))))
          · exact ⟨A5, c5, rfl, ho5.sl_⟩
        (try simp only [Act.put, List.setIfInBounds_toArray, List.set_cons_zero, List.set_cons_succ, List.nil_append, List.cons_append])
        refine chain_is (step_take (by rfl) ?yr1n6) ?rr1n6
        case yr1n6 =>
          intro w hbw hd
          clear hd
          go_simp
          first | done | with_reducible rfl
        (try simp only [Act.put, List.setIfInBounds_toArray, List.set_cons_zero, List.set_cons_succ, List.nil_append, List.cons_append])
        refine chain_is (step_take (by rfl) ?yr1n7) ?rr1n7
        case yr1n7 =>
          intro w hbw hd
          have r0 : w.cell? ⟨w2.heap.size, 0, none⟩ = some (.slice A1 xs.length c1) := cell_keep hbw qL0 zL
          clear hd
          go_simp
          first | done | with_reducible rfl
        (try simp only [Act.put, List.setIfInBounds_toArray, List.set_cons_zero, List.set_cons_succ, List.nil_append, List.cons_append])
        refine chain_is (step_take (by rfl) ?yr1n8) ?rr1n8
        case yr1n8 =>
          intro w hbw hd
          clear hd
          go_simp
          first | done | with_reducible rfl
        (try simp only [Act.put, List.setIfInBounds_toArray, List.set_cons_zero, List.set_cons_succ, List.nil_append, List.cons_append])
        refine chain_has ?sr1n9 (fun vr1n9 => ?rr1n9)
        case sr1n9 =>
          intro w hbw hd K Q' hK
          clear hd
          go_simp
          refine (withoutZ_any A1 c1 xs G _ ((ML_1.out.a).ext hbw) (by omega)).mono ?_
          rintro e x ⟨A5, c5, rfl, ho5, hx⟩
          go_wp2_with fail
          refine hK.out (.slice A5 (wo G xs).length c5) _ _ ?_ ?_ ?_
          · (simp only [Act.put, List.setIfInBounds_toArray, List.set_cons_zero, List.set_cons_succ, List.nil_append, List.cons_append])
          · exact (by repeat' (first | with_reducible exact Below.refl _ _ | with_reducible assumption | with_reducible apply Below.drew | with_reducible apply below_drewN | with_reducible apply Below.alloc | with_reducible apply Below.setCell | (with_reducible refine Below.trans ?_ (Below.mono (by assumption) ?_)) | (simp; done) | (simp; omega) | omega | with_reducible apply le_size_alloc | with_reducible apply le_size_drewN | with_reducible apply le_size_drew | with_reducible apply le_size_setCell | with_reducible refine Nat.le_trans ?_ (Below.size (by assumption))))
          · exact ⟨A5, c5, rfl, ho5.sl_⟩
        (try simp only [Act.put, List.setIfInBounds_toArray, List.set_cons_zero, List.set_cons_succ, List.nil_append, List.cons_append])
        refine chain_is ?sr1n10 ?rr1n10
        case sr1n10 =>
          intro w hbw hd K Q' hK
          obtain ⟨Q1, e1, rfl, s1⟩ : NewS (wo G us) _ w := hd 5 _ _ (by rfl) rfl rfl
          obtain ⟨Q2, e2, rfl, s2⟩ : NewS (wo G xs) _ w := hd 9 _ _ (by rfl) rfl rfl
          clear hd
          go_simp
          refine (same_wo Q1 Q2 e1 e2 _ _ _ HU.out s1 s2 (wo_small (by omega))).mono ?_
          rintro e x ⟨rfl, hx⟩
          go_wp2_with fail
          refine hK.out (.bool true) _ _ ?_ ?_ rfl
          · (simp only [Act.put, List.setIfInBounds_toArray, List.set_cons_zero, List.set_cons_succ, List.nil_append, List.cons_append])
          · exact (by repeat' (first | with_reducible exact Below.refl _ _ | with_reducible assumption | with_reducible apply Below.drew | with_reducible apply below_drewN | with_reducible apply Below.alloc | with_reducible apply Below.setCell | (with_reducible refine Below.trans ?_ (Below.mono (by assumption) ?_)) | (simp; done) | (simp; omega) | omega | with_reducible apply le_size_alloc | with_reducible apply le_size_drewN | with_reducible apply le_size_drew | with_reducible apply le_size_setCell | with_reducible refine Nat.le_trans ?_ (Below.size (by assumption))))
        (try simp only [Act.put, List.setIfInBounds_toArray, List.set_cons_zero, List.set_cons_succ, List.nil_append, List.cons_append])
        refine chain_is (step_take (by rfl) ?yr1n11) ?rr1n11
        case yr1n11 =>
          intro w hbw hd
          clear hd
          go_simp
          first | done | with_reducible rfl
        (try simp only [Act.put, List.setIfInBounds_toArray, List.set_cons_zero, List.set_cons_succ, List.nil_append, List.cons_append])
        refine chain_is (step_take (by rfl) ?yr1n12) ?rr1n12
        case yr1n12 =>
          intro w hbw hd
          clear hd
          go_simp
          first | done | with_reducible rfl
        (try simp only [Act.put, List.setIfInBounds_toArray, List.set_cons_zero, List.set_cons_succ, List.nil_append, List.cons_append])
        refine chain_is (step_take (by rfl) ?yr1n13) ?rr1n13
        case yr1n13 =>
          intro w hbw hd
          clear hd
          go_simp
          first | done | with_reducible rfl
        (try simp only [Act.put, List.setIfInBounds_toArray, List.set_cons_zero, List.set_cons_succ, List.nil_append, List.cons_append])
        refine chain_is (step_take (by rfl) ?yr1n14) ?rr1n14
        case yr1n14 =>
          intro w hbw hd
          have r1 : w.cell? ⟨x3.heap.size, 1, none⟩ = some (.slice B2 vs.length d2) := cell_keep hbw qA1 zA
          clear hd
          go_simp
          first | done | with_reducible rfl
        (try simp only [Act.put, List.setIfInBounds_toArray, List.set_cons_zero, List.set_cons_succ, List.nil_append, List.cons_append])
        refine chain_is (step_take (by rfl) ?yr1n15) ?rr1n15
        case yr1n15 =>
          intro w hbw hd
          clear hd
          go_simp
          first | done | with_reducible rfl
        (try simp only [Act.put, List.setIfInBounds_toArray, List.set_cons_zero, List.set_cons_succ, List.nil_append, List.cons_append])
        refine chain_has ?sr1n16 (fun vr1n16 => ?rr1n16)
        case sr1n16 =>
          intro w hbw hd K Q' hK
          clear hd
          go_simp
          refine (withoutZ_any B2 d2 vs G _ ((MA_1.out.i).ext hbw) (by omega)).mono ?_
          rintro e x ⟨A5, c5, rfl, ho5, hx⟩
          go_wp2_with fail
          refine hK.out (.slice A5 (wo G vs).length c5) _ _ ?_ ?_ ?_
          · (simp only [Act.put, List.setIfInBounds_toArray, List.set_cons_zero, List.set_cons_succ, List.nil_append, List.cons_append])
          · exact (by repeat' (first | with_reducible exact Below.refl _ _ | with_reducible assumption | with_reducible apply Below.drew | with_reducible apply below_drewN | with_reducible apply Below.alloc | with_reducible apply Below.setCell | (with_reducible refine Below.trans ?_ (Below.mono (by assumption) ?_)) | (simp; done) | (simp; omega) | omega | with_reducible apply le_size_alloc | with_reducible apply le_size_drewN | with_reducible apply le_size_drew | with_reducible apply le_size_setCell | with_reducible refine Nat.le_trans ?_ (Below.size (by assumption))))
          · exact ⟨A5, c5, rfl, ho5.sl_⟩
        (try simp only [Act.put, List.setIfInBounds_toArray, List.set_cons_zero, List.set_cons_succ, List.nil_append, List.cons_append])
        refine chain_is (step_take (by rfl) ?yr1n17) ?rr1n17
        case yr1n17 =>
          intro w hbw hd
          clear hd
          go_simp
          first | done | with_reducible rfl
        (try simp only [Act.put, List.setIfInBounds_toArray, List.set_cons_zero, List.set_cons_succ, List.nil_append, List.cons_append])
        refine chain_is (step_take (by rfl) ?yr1n18) ?rr1n18
        case yr1n18 =>
          intro w hbw hd
          have r1 : w.cell? ⟨w2.heap.size, 1, none⟩ = some (.slice A2 ys.length c2) := cell_keep hbw qL1 zL
          clear hd
          go_simp
          first | done | with_reducible rfl
        (try simp only [Act.put, List.setIfInBounds_toArray, List.set_cons_zero, List.set_cons_succ, List.nil_append, List.cons_append])
        refine chain_is (step_take (by rfl) ?yr1n19) ?rr1n19
        case yr1n19 =>
          intro w hbw hd
          clear hd
          go_simp
          first | done | with_reducible rfl
        (try simp only [Act.put, List.setIfInBounds_toArray, List.set_cons_zero, List.set_cons_succ, List.nil_append, List.cons_append])
        refine chain_has ?sr1n20 (fun vr1n20 => ?rr1n20)
        case sr1n20 =>
          intro w hbw hd K Q' hK
          clear hd
          go_simp
          refine (withoutZ_any A2 c2 ys G _ ((ML_1.out.i).ext hbw) (by omega)).mono ?_
          rintro e x ⟨A5, c5, rfl, ho5, hx⟩
          go_wp2_with fail
          refine hK.out (.slice A5 (wo G ys).length c5) _ _ ?_ ?_ ?_
          · (simp only [Act.put, List.setIfInBounds_toArray, List.set_cons_zero, List.set_cons_succ, List.nil_append, List.cons_append])
          · exact (by repeat' (first | with_reducible exact Below.refl _ _ | with_reducible assumption | with_reducible apply Below.drew | with_reducible apply below_drewN | with_reducible apply Below.alloc | with_reducible apply Below.setCell | (with_reducible refine Below.trans ?_ (Below.mono (by assumption) ?_)) | (simp; done) | (simp; omega) | omega | with_reducible apply le_size_alloc | with_reducible apply le_size_drewN | with_reducible apply le_size_drew | with_reducible apply le_size_setCell | with_reducible refine Nat.le_trans ?_ (Below.size (by assumption))))
          · exact ⟨A5, c5, rfl, ho5.sl_⟩
        (try simp only [Act.put, List.setIfInBounds_toArray, List.set_cons_zero, List.set_cons_succ, List.nil_append, List.cons_append])
        refine chain_is ?sr1n21 ?rr1n21
        case sr1n21 =>
          intro w hbw hd K Q' hK
          obtain ⟨Q1, e1, rfl, s1⟩ : NewS (wo G vs) _ w := hd 16 _ _ (by rfl) rfl rfl
          obtain ⟨Q2, e2, rfl, s2⟩ : NewS (wo G ys) _ w := hd 20 _ _ (by rfl) rfl rfl
          clear hd
          go_simp
          refine (same_wo Q1 Q2 e1 e2 _ _ _ HV.out s1 s2 (wo_small (by omega))).mono ?_
          rintro e x ⟨rfl, hx⟩
          go_wp2_with fail
          refine hK.out (.bool true) _ _ ?_ ?_ rfl
          · (simp only [Act.put, List.setIfInBounds_toArray, List.set_cons_zero, List.set_cons_succ, List.nil_append, List.cons_append])
          · exact (by repeat' (first | with_reducible exact Below.refl _ _ | with_reducible assumption | with_reducible apply Below.drew | with_reducible apply below_drewN | with_reducible apply Below.alloc | with_reducible apply Below.setCell | (with_reducible refine Below.trans ?_ (Below.mono (by assumption) ?_)) | (simp; done) | (simp; omega) | omega | with_reducible apply le_size_alloc | with_reducible apply le_size_drewN | with_reducible apply le_size_drew | with_reducible apply le_size_setCell | with_reducible refine Nat.le_trans ?_ (Below.size (by assumption))))
        (try simp only [Act.put, List.setIfInBounds_toArray, List.set_cons_zero, List.set_cons_succ, List.nil_append, List.cons_append])
        refine chain_is (step_take (by rfl) ?yr1n22) ?rr1n22
        case yr1n22 =>
          intro w hbw hd
          clear hd
          go_simp
          first | done | with_reducible rfl
        (try simp only [Act.put, List.setIfInBounds_toArray, List.set_cons_zero, List.set_cons_succ, List.nil_append, List.cons_append])
        refine chain_is (step_take (by rfl) ?yr1n23) ?rr1n23
        case yr1n23 =>
          intro w hbw hd
          clear hd
          go_simp
          first | done | with_reducible rfl
        (try simp only [Act.put, List.setIfInBounds_toArray, List.set_cons_zero, List.set_cons_succ, List.nil_append, List.cons_append])
        refine chain_is (step_take (by rfl) ?yr1n24) ?rr1n24
        case yr1n24 =>
          intro w hbw hd
          clear hd
          go_simp
          first | done | with_reducible rfl
        (try simp only [Act.put, List.setIfInBounds_toArray, List.set_cons_zero, List.set_cons_succ, List.nil_append, List.cons_append])
        refine chain_is (step_take (by rfl) ?yr1n25) ?rr1n25
        case yr1n25 =>
          intro w hbw hd
          clear hd
          go_simp
          first | done | with_reducible rfl
        (try simp only [Act.put, List.setIfInBounds_toArray, List.set_cons_zero, List.set_cons_succ, List.nil_append, List.cons_append])
        refine chain_is (step_take (by rfl) ?yr1n26) ?rr1n26
        case yr1n26 =>
          intro w hbw hd
          clear hd
          go_simp
          first | done | with_reducible rfl
        (try simp only [Act.put, List.setIfInBounds_toArray, List.set_cons_zero, List.set_cons_succ, List.nil_append, List.cons_append])
        refine chain_is (step_take (by rfl) ?yr1n27) ?rr1n27
        case yr1n27 =>
          intro w hbw hd
          clear hd
          go_simp
          first | done | with_reducible rfl
        (try simp only [Act.put, List.setIfInBounds_toArray, List.set_cons_zero, List.set_cons_succ, List.nil_append, List.cons_append])
        refine chain_is (step_take (by rfl) ?yr1n28) ?rr1n28
        case yr1n28 =>
          intro w hbw hd
          have r2 : w.cell? ⟨x3.heap.size, 2, none⟩ = some (.slice (some ⟨bS, oS, none⟩) ss.length d3) := cell_keep hbw qA2 zA
          clear hd
          go_simp
          first | done | with_reducible rfl
        (try simp only [Act.put, List.setIfInBounds_toArray, List.set_cons_zero, List.set_cons_succ, List.nil_append, List.cons_append])
        refine chain_is (step_take (by rfl) ?yr1n29) ?rr1n29
        case yr1n29 =>
          intro w hbw hd
          clear hd
          go_simp
          first | done | with_reducible rfl
        (try simp only [Act.put, List.setIfInBounds_toArray, List.set_cons_zero, List.set_cons_succ, List.nil_append, List.cons_append])
        refine chain_is (step_take (by rfl) ?yr1n30) ?rr1n30
        case yr1n30 =>
          intro w hbw hd
          clear hd
          go_simp
          first | done | with_reducible rfl
        (try simp only [Act.put, List.setIfInBounds_toArray, List.set_cons_zero, List.set_cons_succ, List.nil_append, List.cons_append])
        refine chain_is (step_take (by rfl) ?yr1n31) ?rr1n31
        case yr1n31 =>
          intro w hbw hd
          have r9 : w.cell? ⟨bS, oS + G, none⟩ = some (.bool false) := cell_keep hbw (cell_keep hb0 HCS0.out HZS0.out) (Nat.lt_of_lt_of_le HZS0.out hb0.size)
          clear hd
          go_simp
          first | done | with_reducible rfl
        (try simp only [Act.put, List.setIfInBounds_toArray, List.set_cons_zero, List.set_cons_succ, List.nil_append, List.cons_append])
        refine chain_is (step_take (by rfl) ?yr1n32) ?rr1n32
        case yr1n32 =>
          intro w hbw hd
          clear hd
          go_simp
          first | done | with_reducible rfl
        (try simp only [Act.put, List.setIfInBounds_toArray, List.set_cons_zero, List.set_cons_succ, List.nil_append, List.cons_append])
        refine chain_is (step_take (by rfl) ?yr1n33) ?rr1n33
        case yr1n33 =>
          intro w hbw hd
          clear hd
          go_simp
          first | done | with_reducible rfl
        (try simp only [Act.put, List.setIfInBounds_toArray, List.set_cons_zero, List.set_cons_succ, List.nil_append, List.cons_append])
        refine chain_is (step_take (by rfl) ?yr1n34) ?rr1n34
        case yr1n34 =>
          intro w hbw hd
          clear hd
          go_simp
          first | done | with_reducible rfl
        (try simp only [Act.put, List.setIfInBounds_toArray, List.set_cons_zero, List.set_cons_succ, List.nil_append, List.cons_append])
        refine chain_is (step_take (by rfl) ?yr1n35) ?rr1n35
        case yr1n35 =>
          intro w hbw hd
          clear hd
          go_simp
          first | done | with_reducible rfl
        (try simp only [Act.put, List.setIfInBounds_toArray, List.set_cons_zero, List.set_cons_succ, List.nil_append, List.cons_append])
        refine chain_end (fun wz hbz hd => ?_)
        clear hd
        have bw3 : Below W0.heap.size W0 wz := (by repeat' (first | with_reducible exact Below.refl _ _ | with_reducible assumption | with_reducible apply Below.drew | with_reducible apply below_drewN | with_reducible apply Below.alloc | with_reducible apply Below.setCell | (with_reducible refine Below.trans ?_ (Below.mono (by assumption) ?_)) | (simp; done) | (simp; omega) | omega | with_reducible apply le_size_alloc | with_reducible apply le_size_drewN | with_reducible apply le_size_drew | with_reducible apply le_size_setCell | with_reducible refine Nat.le_trans ?_ (Below.size (by assumption))))
        have L_3 : Hid (Blk wz w2.heap.size 25 #[.slice A1 xs.length c1, .slice A2 ys.length c2, .slice A3 rs.length c3]) := L_1.out.below_ bw3 L_1.out.lt
        have A_3 : Hid (Blk wz x3.heap.size 25 #[.slice B1 us.length d1, .slice B2 vs.length d2, .slice (some ⟨bS, oS, none⟩) ss.length d3]) := A_1.out.below_ bw3 A_1.out.lt
        have ML_3 : Hid (InMem wz A1 A2 A3 xs ys rs) := ML_1.out.ext bw3
        have MA_3 : Hid (InMem wz B1 B2 (some ⟨bS, oS, none⟩) us vs ss) := MA_1.out.ext bw3
        have HB_3 : Hid (Below w.heap.size w wz) := HB_1.out.trans (bw3.mono HB_1.out.size)
        clear bw3 hbz L_1 A_1 ML_1 MA_1 HB_1
        clear hz0 bw1 hb0 KL KA ML MA HB qL0 qL1 qL2 zL qA0 qA1 qA2 zA
        obtain ⟨x2, rfl⟩ : ∃ x2 : World, x2 = wz := ⟨_, rfl⟩
        go_wp2_with fail
        go_ret
        exact ⟨by first | rfl | simp, HB_3.out⟩
  · subst HW
    obtain ⟨f0, f1, hwu, hwv, hoff⟩ := hone.fr (by omega)
    obtain ⟨G, rfl⟩ : ∃ G : Nat, f = G := ⟨f.toNat, by omega⟩
    have hbit := hone.bit (by omega) (by omega)
    rw [Int.toNat_natCast] at hbit
    have hG : G < 20 := by omega
    have hG0 : ¬ (20 : Int) ≤ G := by omega
    have hwg : IntKind.i64.wrap (G : Int) = G := by rw [IntKind.wrap_i64]; omega
    have HBIT := Lib.hid hbit; have HOFF := Lib.hid hoff; have HU := Lib.hid hwu; have HV := Lib.hid hwv
    clear hoff hbit hwu hwv f0 f1
    clear hone
    have q0 : W.cell? ⟨w2.heap.size, 0, none⟩ = some (.slice A1 xs.length c1) := (KL.out.cell_ 0).trans (by simp)
    have q1 : W.cell? ⟨w2.heap.size, 1, none⟩ = some (.slice A2 ys.length c2) := (KL.out.cell_ 1).trans (by simp)
    have q2 : W.cell? ⟨w2.heap.size, 2, none⟩ = some (.slice A3 rs.length c3) := (KL.out.cell_ 2).trans (by simp)
    have p0 : W.cell? ⟨x3.heap.size, 0, none⟩ = some (.slice B1 us.length d1) := (KA.out.cell_ 0).trans (by simp)
    have p1 : W.cell? ⟨x3.heap.size, 1, none⟩ = some (.slice B2 vs.length d2) := (KA.out.cell_ 1).trans (by simp)
    have p2 : W.cell? ⟨x3.heap.size, 2, none⟩ = some (.slice B3 ss.length d3) := (KA.out.cell_ 2).trans (by simp)
    go_wp2_with fail
    refine (MA.out.check d1 d2 d3).mono ?_
    rw [HCA.out]
    rintro e x5 ⟨rfl, h5⟩
    clear q0 q1 q2 p0 p1 p2
    have KL_ := Lib.hid (KL.out.below_ h5 KL.out.lt); have KA_ := Lib.hid (KA.out.below_ h5 KA.out.lt); have ML_ := Lib.hid (ML.out.ext h5); have MA_ := Lib.hid (MA.out.ext h5); have HB_ := Lib.hid (HB.out.trans (h5.mono HB.out.size))
    clear KL KA ML MA HB h5
    obtain ⟨⟨KL, KA⟩, ⟨ML, MA⟩, HB⟩ := And.intro (And.intro KL_ KA_) (And.intro (And.intro ML_ MA_) HB_)
    clear KL_ KA_ ML_ MA_ HB_
    have zL := KL.out.lt
    have zA := KA.out.lt
    have q0 : x5.cell? ⟨w2.heap.size, 0, none⟩ = some (.slice A1 xs.length c1) := (KL.out.cell_ 0).trans (by simp)
    have q1 : x5.cell? ⟨w2.heap.size, 1, none⟩ = some (.slice A2 ys.length c2) := (KL.out.cell_ 1).trans (by simp)
    have q2 : x5.cell? ⟨w2.heap.size, 2, none⟩ = some (.slice A3 rs.length c3) := (KL.out.cell_ 2).trans (by simp)
    have p0 : x5.cell? ⟨x3.heap.size, 0, none⟩ = some (.slice B1 us.length d1) := (KA.out.cell_ 0).trans (by simp)
    have p1 : x5.cell? ⟨x3.heap.size, 1, none⟩ = some (.slice B2 vs.length d2) := (KA.out.cell_ 1).trans (by simp)
    have p2 : x5.cell? ⟨x3.heap.size, 2, none⟩ = some (.slice B3 ss.length d3) := (KA.out.cell_ 2).trans (by simp)
    go_wp2_with fail
    clear q0 q1 q2 p0 p1 p2
    go_loopw [11] (fun i wr => ∃ k : Nat, k ≤ 20 ∧ i = .int .i64 k ∧ Below x5.heap.size x5 wr) (fun i _ => 20 - (intOf i).toNat)
    case atStart => exact ⟨0, by omega, rfl, Below.refl _ _⟩
    case round =>
      obtain ⟨k, hk, rfl, hb⟩ := hrel
      have HBK := Lib.hid hb
      have KL_ := Lib.hid (KL.out.below_ hb KL.out.lt); have KA_ := Lib.hid (KA.out.below_ hb KA.out.lt); have ML_ := Lib.hid (ML.out.ext hb); have MA_ := Lib.hid (MA.out.ext hb); have HB_ := Lib.hid (HB.out.trans (hb.mono HB.out.size))
      clear KL KA ML MA HB hb
      obtain ⟨⟨KL, KA⟩, ⟨ML, MA⟩, HB⟩ := And.intro (And.intro KL_ KA_) (And.intro (And.intro ML_ MA_) HB_)
      clear KL_ KA_ ML_ MA_ HB_
      have zL := KL.out.lt
      have zA := KA.out.lt
      by_cases hlt : k < 20
      · have q0 : wr.cell? ⟨w2.heap.size, 0, none⟩ = some (.slice A1 xs.length c1) := (KL.out.cell_ 0).trans (by simp)
        have q1 : wr.cell? ⟨w2.heap.size, 1, none⟩ = some (.slice A2 ys.length c2) := (KL.out.cell_ 1).trans (by simp)
        have q2 : wr.cell? ⟨w2.heap.size, 2, none⟩ = some (.slice A3 rs.length c3) := (KL.out.cell_ 2).trans (by simp)
        have p0 : wr.cell? ⟨x3.heap.size, 0, none⟩ = some (.slice B1 us.length d1) := (KA.out.cell_ 0).trans (by simp)
        have p1 : wr.cell? ⟨x3.heap.size, 1, none⟩ = some (.slice B2 vs.length d2) := (KA.out.cell_ 1).trans (by simp)
        have p2 : wr.cell? ⟨x3.heap.size, 2, none⟩ = some (.slice B3 ss.length d3) := (KA.out.cell_ 2).trans (by simp)
        obtain ⟨bR, oR, x, hAe, hbR, hx, hcR⟩ := ML.out.r.at_ (k := k) (by omega)
        obtain ⟨bS, oS, y, hBe, hbS, hy, hcS⟩ := MA.out.r.at_ (k := k) (by omega)
        subst hAe hBe
        have i1 : (k : Int) < rs.length := by omega
        have i2 : (k : Int) < ss.length := by omega
        have i3 : (k : Int) < 20 := by omega
        have hwk : IntKind.i64.wrap (k : Int) = k := by rw [IntKind.wrap_i64]; omega
        by_cases hkG : k = G
        · subst hkG
          have e0 : ((k : Int) != (k : Int)) = false := by simp
          clear hx hy
          go_wp2_with fail
          go_quiet (fail)
          go_wp2_with fail
          go_roundw
          case rel => exact ⟨k + 1, by omega, by go_num, (by have hb := HBK.out; exact (by repeat' (first | with_reducible exact Below.refl _ _ | with_reducible assumption | with_reducible apply Below.drew | with_reducible apply below_drewN | with_reducible apply Below.alloc | with_reducible apply Below.setCell | (with_reducible refine Below.trans ?_ (Below.mono (by assumption) ?_)) | (simp; done) | (simp; omega) | omega | with_reducible apply le_size_alloc | with_reducible apply le_size_drewN | with_reducible apply le_size_drew | with_reducible apply le_size_setCell | refine Nat.le_trans ?_ (Below.size (by assumption)))))⟩
          case measure => simp [intOf]; omega
        · have hyx := hy.symm.trans ((HOFF.out k (by omega)).trans hx)
          injection hyx with hyx
          subst hyx
          have e0 : ((k : Int) != (G : Int)) = true := by simp; omega
          clear hx hy
          cases y
          all_goals
            go_wp2_with fail
            go_quiet (fail)
            go_wp2_with fail
            go_roundw
            case rel => exact ⟨k + 1, by omega, by go_num, (by have hb := HBK.out; exact (by repeat' (first | with_reducible exact Below.refl _ _ | with_reducible assumption | with_reducible apply Below.drew | with_reducible apply below_drewN | with_reducible apply Below.alloc | with_reducible apply Below.setCell | (with_reducible refine Below.trans ?_ (Below.mono (by assumption) ?_)) | (simp; done) | (simp; omega) | omega | with_reducible apply le_size_alloc | with_reducible apply le_size_drewN | with_reducible apply le_size_drew | with_reducible apply le_size_setCell | refine Nat.le_trans ?_ (Below.size (by assumption)))))⟩
            case measure => simp [intOf]; omega
      · have i3 : ¬ (k : Int) < 20 := by omega
        obtain ⟨bS, oS, y, hBe, hbS, hy, hcS⟩ := MA.out.r.at_ (k := G) (by omega)
        rw [HBIT.out] at hy
        injection hy with hy
        subst hy hBe
        have iG : (G : Int) < ss.length := by omega
        have HCS0 := Lib.hid hcS; have HZS0 := Lib.hid hbS
        clear hcS hbS
        go_wp2_with fail
        refine wp_region_chain (.is ?fr2n0 :: .is ?fr2n1 :: .is ?fr2n2 :: .is ?fr2n3 :: .is ?fr2n4 :: .has (NewS (wo G us)) :: .is ?fr2n6 :: .is ?fr2n7 :: .is ?fr2n8 :: .has (NewS (wo G xs)) :: .is (.bool true) :: .is ?fr2n11 :: .is ?fr2n12 :: .is ?fr2n13 :: .is ?fr2n14 :: .is ?fr2n15 :: .has (NewS (wo G vs)) :: .is ?fr2n17 :: .is ?fr2n18 :: .is ?fr2n19 :: .has (NewS (wo G ys)) :: .is (.bool true) :: .is ?fr2n22 :: .is ?fr2n23 :: .is ?fr2n24 :: .is ?fr2n25 :: .is ?fr2n26 :: .is ?fr2n27 :: .is ?fr2n28 :: .is ?fr2n29 :: .is ?fr2n30 :: .is ?fr2n31 :: .is ?fr2n32 :: .is ?fr2n33 :: .is ?fr2n34 :: .is ?fr2n35 :: []) (by kernel_rfl) (by kernel_rfl) (by kernel_rfl) (lasts_is (lasts_is (lasts_is (lasts_is (lasts_is (lasts_has (NewS.lasts (wo G us)) (lasts_is (lasts_is (lasts_is (lasts_has (NewS.lasts (wo G xs)) (lasts_is (lasts_is (lasts_is (lasts_is (lasts_is (lasts_is (lasts_has (NewS.lasts (wo G vs)) (lasts_is (lasts_is (lasts_is (lasts_has (NewS.lasts (wo G ys)) (lasts_is (lasts_is (lasts_is (lasts_is (lasts_is (lasts_is (lasts_is (lasts_is (lasts_is (lasts_is (lasts_is (lasts_is (lasts_is (lasts_is (lasts_is lasts_nil)))))))))))))))))))))))))))))))))))) (fun W0 hb0 hz0 => ?_)
        rotate_left 30
        have bw1 : Below wr.heap.size wr W0 := (by repeat' (first | with_reducible exact Below.refl _ _ | with_reducible assumption | with_reducible apply Below.drew | with_reducible apply below_drewN | with_reducible apply Below.alloc | with_reducible apply Below.setCell | (with_reducible refine Below.trans ?_ (Below.mono (by assumption) ?_)) | (simp; done) | (simp; omega) | omega | with_reducible apply le_size_alloc | with_reducible apply le_size_drewN | with_reducible apply le_size_drew | with_reducible apply le_size_setCell | with_reducible refine Nat.le_trans ?_ (Below.size (by assumption))))
        have L_1 : Hid (Blk W0 w2.heap.size 25 #[.slice A1 xs.length c1, .slice A2 ys.length c2, .slice A3 rs.length c3]) := KL.out.below_ bw1 KL.out.lt
        have A_1 : Hid (Blk W0 x3.heap.size 25 #[.slice B1 us.length d1, .slice B2 vs.length d2, .slice (some ⟨bS, oS, none⟩) ss.length d3]) := KA.out.below_ bw1 KA.out.lt
        have ML_1 : Hid (InMem W0 A1 A2 A3 xs ys rs) := ML.out.ext bw1
        have MA_1 : Hid (InMem W0 B1 B2 (some ⟨bS, oS, none⟩) us vs ss) := MA.out.ext bw1
        have HB_1 : Hid (Below w.heap.size w W0) := HB.out.trans (bw1.mono HB.out.size)
        have qL0 : W0.cell? ⟨w2.heap.size, 0, none⟩ = some (.slice A1 xs.length c1) := (L_1.out.cell_ 0).trans (by simp)
        have qL1 : W0.cell? ⟨w2.heap.size, 1, none⟩ = some (.slice A2 ys.length c2) := (L_1.out.cell_ 1).trans (by simp)
        have qL2 : W0.cell? ⟨w2.heap.size, 2, none⟩ = some (.slice A3 rs.length c3) := (L_1.out.cell_ 2).trans (by simp)
        have zL : w2.heap.size < W0.heap.size := L_1.out.lt
        have qA0 : W0.cell? ⟨x3.heap.size, 0, none⟩ = some (.slice B1 us.length d1) := (A_1.out.cell_ 0).trans (by simp)
        have qA1 : W0.cell? ⟨x3.heap.size, 1, none⟩ = some (.slice B2 vs.length d2) := (A_1.out.cell_ 1).trans (by simp)
        have qA2 : W0.cell? ⟨x3.heap.size, 2, none⟩ = some (.slice (some ⟨bS, oS, none⟩) ss.length d3) := (A_1.out.cell_ 2).trans (by simp)
        have zA : x3.heap.size < W0.heap.size := A_1.out.lt
        refine chain_is (step_take (by rfl) ?yr2n0) ?rr2n0
        case yr2n0 =>
          intro w hbw hd
          clear hd
          go_simp
          first | done | with_reducible rfl
        (try simp only [Act.put, List.setIfInBounds_toArray, List.set_cons_zero, List.set_cons_succ, List.nil_append, List.cons_append])
        refine chain_is (step_take (by rfl) ?yr2n1) ?rr2n1
        case yr2n1 =>
          intro w hbw hd
          clear hd
          go_simp
          first | done | with_reducible rfl
        (try simp only [Act.put, List.setIfInBounds_toArray, List.set_cons_zero, List.set_cons_succ, List.nil_append, List.cons_append])
        refine chain_is (step_take (by rfl) ?yr2n2) ?rr2n2
        case yr2n2 =>
          intro w hbw hd
          clear hd
          go_simp
          first | done | with_reducible rfl
        (try simp only [Act.put, List.setIfInBounds_toArray, List.set_cons_zero, List.set_cons_succ, List.nil_append, List.cons_append])
        refine chain_is (step_take (by rfl) ?yr2n3) ?rr2n3
        case yr2n3 =>
          intro w hbw hd
          have r0 : w.cell? ⟨x3.heap.size, 0, none⟩ = some (.slice B1 us.length d1) := cell_keep hbw qA0 zA
          clear hd
          go_simp
          first | done | with_reducible rfl
        (try simp only [Act.put, List.setIfInBounds_toArray, List.set_cons_zero, List.set_cons_succ, List.nil_append, List.cons_append])
        refine chain_is (step_take (by rfl) ?yr2n4) ?rr2n4
        case yr2n4 =>
          intro w hbw hd
          clear hd
          go_simp
          first | done | with_reducible rfl
        (try simp only [Act.put, List.setIfInBounds_toArray, List.set_cons_zero, List.set_cons_succ, List.nil_append, List.cons_append])
        refine chain_has ?sr2n5 (fun vr2n5 => ?rr2n5)
        case sr2n5 =>
          intro w hbw hd K Q' hK
          clear hd
          go_simp
          refine (withoutZ_any B1 d1 us G _ ((MA_1.out.a).ext hbw) (by omega)).mono ?_
          rintro e x ⟨A5, c5, rfl, ho5, hx⟩
          go_wp2_with fail
          refine hK.out (.slice A5 (wo G us).length c5) _ _ ?_ ?_ ?_
          · (simp only [Act.put, List.setIfInBounds_toArray, List.set_cons_zero, List.set_cons_succ, List.nil_append, List.cons_append])
          · exact (by repeat' (first | with_reducible exact Below.refl _ _ | with_reducible assumption | with_reducible apply Below.drew | with_reducible apply below_drewN | with_reducible apply Below.alloc | with_reducible apply Below.setCell | (with_reducible refine Below.trans ?_ (Below.mono (by assumption) ?_)) | (simp; done) | (simp; omega) | omega | with_reducible apply le_size_alloc | with_reducible apply le_size_drewN | with_reducible apply le_size_drew | with_reducible apply le_size_setCell | with_reducible refine Nat.le_trans ?_ (Below.size (by assumption))))
          · exact ⟨A5, c5, rfl, ho5.sl_⟩
        (try simp only [Act.put, List.setIfInBounds_toArray, List.set_cons_zero, List.set_cons_succ, List.nil_append, List.cons_append])
        refine chain_is (step_take (by rfl) ?yr2n6) ?rr2n6
        case yr2n6 =>
          intro w hbw hd
          clear hd
          go_simp
          first | done | with_reducible rfl
        (try simp only [Act.put, List.setIfInBounds_toArray, List.set_cons_zero, List.set_cons_succ, List.nil_append, List.cons_append])
        refine chain_is (step_take (by rfl) ?yr2n7) ?rr2n7
        case yr2n7 =>
          intro w hbw hd
          have r0 : w.cell? ⟨w2.heap.size, 0, none⟩ = some (.slice A1 xs.length c1) := cell_keep hbw qL0 zL
          clear hd
          go_simp
          first | done | with_reducible rfl
        (try simp only [Act.put, List.setIfInBounds_toArray, List.set_cons_zero, List.set_cons_succ, List.nil_append, List.cons_append])
        refine chain_is (step_take (by rfl) ?yr2n8) ?rr2n8
        case yr2n8 =>
          intro w hbw hd
          clear hd
          go_simp
          first | done | with_reducible rfl
        (try simp only [Act.put, List.setIfInBounds_toArray, List.set_cons_zero, List.set_cons_succ, List.nil_append, List.cons_append])
        refine chain_has ?sr2n9 (fun vr2n9 => ?rr2n9)
        case sr2n9 =>
          intro w hbw hd K Q' hK
          clear hd
          go_simp
          refine (withoutZ_any A1 c1 xs G _ ((ML_1.out.a).ext hbw) (by omega)).mono ?_
          rintro e x ⟨A5, c5, rfl, ho5, hx⟩
          go_wp2_with fail
          refine hK.out (.slice A5 (wo G xs).length c5) _ _ ?_ ?_ ?_
          · (simp only [Act.put, List.setIfInBounds_toArray, List.set_cons_zero, List.set_cons_succ, List.nil_append, List.cons_append])
          · exact (by repeat' (first | with_reducible exact Below.refl _ _ | with_reducible assumption | with_reducible apply Below.drew | with_reducible apply below_drewN | with_reducible apply Below.alloc | with_reducible apply Below.setCell | (with_reducible refine Below.trans ?_ (Below.mono (by assumption) ?_)) | (simp; done) | (simp; omega) | omega | with_reducible apply le_size_alloc | with_reducible apply le_size_drewN | with_reducible apply le_size_drew | with_reducible apply le_size_setCell | with_reducible refine Nat.le_trans ?_ (Below.size (by assumption))))
          · exact ⟨A5, c5, rfl, ho5.sl_⟩
        (try simp only [Act.put, List.setIfInBounds_toArray, List.set_cons_zero, List.set_cons_succ, List.nil_append, List.cons_append])
        refine chain_is ?sr2n10 ?rr2n10
        case sr2n10 =>
          intro w hbw hd K Q' hK
          obtain ⟨Q1, e1, rfl, s1⟩ : NewS (wo G us) _ w := hd 5 _ _ (by rfl) rfl rfl
          obtain ⟨Q2, e2, rfl, s2⟩ : NewS (wo G xs) _ w := hd 9 _ _ (by rfl) rfl rfl
          clear hd
          go_simp
          refine (same_wo Q1 Q2 e1 e2 _ _ _ HU.out s1 s2 (wo_small (by omega))).mono ?_
          rintro e x ⟨rfl, hx⟩
          go_wp2_with fail
          refine hK.out (.bool true) _ _ ?_ ?_ rfl
          · (simp only [Act.put, List.setIfInBounds_toArray, List.set_cons_zero, List.set_cons_succ, List.nil_append, List.cons_append])
          · exact (by repeat' (first | with_reducible exact Below.refl _ _ | with_reducible assumption | with_reducible apply Below.drew | with_reducible apply below_drewN | with_reducible apply Below.alloc | with_reducible apply Below.setCell | (with_reducible refine Below.trans ?_ (Below.mono (by assumption) ?_)) | (simp; done) | (simp; omega) | omega | with_reducible apply le_size_alloc | with_reducible apply le_size_drewN | with_reducible apply le_size_drew | with_reducible apply le_size_setCell | with_reducible refine Nat.le_trans ?_ (Below.size (by assumption))))
        (try simp only [Act.put, List.setIfInBounds_toArray, List.set_cons_zero, List.set_cons_succ, List.nil_append, List.cons_append])
        refine chain_is (step_take (by rfl) ?yr2n11) ?rr2n11
        case yr2n11 =>
          intro w hbw hd
          clear hd
          go_simp
          first | done | with_reducible rfl
        (try simp only [Act.put, List.setIfInBounds_toArray, List.set_cons_zero, List.set_cons_succ, List.nil_append, List.cons_append])
        refine chain_is (step_take (by rfl) ?yr2n12) ?rr2n12
        case yr2n12 =>
          intro w hbw hd
          clear hd
          go_simp
          first | done | with_reducible rfl
        (try simp only [Act.put, List.setIfInBounds_toArray, List.set_cons_zero, List.set_cons_succ, List.nil_append, List.cons_append])
        refine chain_is (step_take (by rfl) ?yr2n13) ?rr2n13
        case yr2n13 =>
          intro w hbw hd
          clear hd
          go_simp
          first | done | with_reducible rfl
        (try simp only [Act.put, List.setIfInBounds_toArray, List.set_cons_zero, List.set_cons_succ, List.nil_append, List.cons_append])
        refine chain_is (step_take (by rfl) ?yr2n14) ?rr2n14
        case yr2n14 =>
          intro w hbw hd
          have r1 : w.cell? ⟨x3.heap.size, 1, none⟩ = some (.slice B2 vs.length d2) := cell_keep hbw qA1 zA
          clear hd
          go_simp
          first | done | with_reducible rfl
        (try simp only [Act.put, List.setIfInBounds_toArray, List.set_cons_zero, List.set_cons_succ, List.nil_append, List.cons_append])
        refine chain_is (step_take (by rfl) ?yr2n15) ?rr2n15
        case yr2n15 =>
          intro w hbw hd
          clear hd
          go_simp
          first | done | with_reducible rfl
        (try simp only [Act.put, List.setIfInBounds_toArray, List.set_cons_zero, List.set_cons_succ, List.nil_append, List.cons_append])
        refine chain_has ?sr2n16 (fun vr2n16 => ?rr2n16)
        case sr2n16 =>
          intro w hbw hd K Q' hK
          clear hd
          go_simp
          refine (withoutZ_any B2 d2 vs G _ ((MA_1.out.i).ext hbw) (by omega)).mono ?_
          rintro e x ⟨A5, c5, rfl, ho5, hx⟩
          go_wp2_with fail
          refine hK.out (.slice A5 (wo G vs).length c5) _ _ ?_ ?_ ?_
          · (simp only [Act.put, List.setIfInBounds_toArray, List.set_cons_zero, List.set_cons_succ, List.nil_append, List.cons_append])
          · exact (by repeat' (first | with_reducible exact Below.refl _ _ | with_reducible assumption | with_reducible apply Below.drew | with_reducible apply below_drewN | with_reducible apply Below.alloc | with_reducible apply Below.setCell | (with_reducible refine Below.trans ?_ (Below.mono (by assumption) ?_)) | (simp; done) | (simp; omega) | omega | with_reducible apply le_size_alloc | with_reducible apply le_size_drewN | with_reducible apply le_size_drew | with_reducible apply le_size_setCell | with_reducible refine Nat.le_trans ?_ (Below.size (by assumption))))
          · exact ⟨A5, c5, rfl, ho5.sl_⟩
        (try simp only [Act.put, List.setIfInBounds_toArray, List.set_cons_zero, List.set_cons_succ, List.nil_append, List.cons_append])
        refine chain_is (step_take (by rfl) ?yr2n17) ?rr2n17
        case yr2n17 =>
          intro w hbw hd
          clear hd
          go_simp
          first | done | with_reducible rfl
        (try simp only [Act.put, List.setIfInBounds_toArray, List.set_cons_zero, List.set_cons_succ, List.nil_append, List.cons_append])
        refine chain_is (step_take (by rfl) ?yr2n18) ?rr2n18
        case yr2n18 =>
          intro w hbw hd
          have r1 : w.cell? ⟨w2.heap.size, 1, none⟩ = some (.slice A2 ys.length c2) := cell_keep hbw qL1 zL
          clear hd
          go_simp
          first | done | with_reducible rfl
        (try simp only [Act.put, List.setIfInBounds_toArray, List.set_cons_zero, List.set_cons_succ, List.nil_append, List.cons_append])
        refine chain_is (step_take (by rfl) ?yr2n19) ?rr2n19
        case yr2n19 =>
          intro w hbw hd
          clear hd
          go_simp
          first | done | with_reducible rfl
        (try simp only [Act.put, List.setIfInBounds_toArray, List.set_cons_zero, List.set_cons_succ, List.nil_append, List.cons_append])
        refine chain_has ?sr2n20 (fun vr2n20 => ?rr2n20)
        case sr2n20 =>
          intro w hbw hd K Q' hK
          clear hd
          go_simp
          refine (withoutZ_any A2 c2 ys G _ ((ML_1.out.i).ext hbw) (by omega)).mono ?_
          rintro e x ⟨A5, c5, rfl, ho5, hx⟩
          go_wp2_with fail
          refine hK.out (.slice A5 (wo G ys).length c5) _ _ ?_ ?_ ?_
          · (simp only [Act.put, List.setIfInBounds_toArray, List.set_cons_zero, List.set_cons_succ, List.nil_append, List.cons_append])
          · exact (by repeat' (first | with_reducible exact Below.refl _ _ | with_reducible assumption | with_reducible apply Below.drew | with_reducible apply below_drewN | with_reducible apply Below.alloc | with_reducible apply Below.setCell | (with_reducible refine Below.trans ?_ (Below.mono (by assumption) ?_)) | (simp; done) | (simp; omega) | omega | with_reducible apply le_size_alloc | with_reducible apply le_size_drewN | with_reducible apply le_size_drew | with_reducible apply le_size_setCell | with_reducible refine Nat.le_trans ?_ (Below.size (by assumption))))
          · exact ⟨A5, c5, rfl, ho5.sl_⟩
        (try simp only [Act.put, List.setIfInBounds_toArray, List.set_cons_zero, List.set_cons_succ, List.nil_append, List.cons_append])
        refine chain_is ?sr2n21 ?rr2n21
        case sr2n21 =>
          intro w hbw hd K Q' hK
          obtain ⟨Q1, e1, rfl, s1⟩ : NewS (wo G vs) _ w := hd 16 _ _ (by rfl) rfl rfl
          obtain ⟨Q2, e2, rfl, s2⟩ : NewS (wo G ys) _ w := hd 20 _ _ (by rfl) rfl rfl
          clear hd
          go_simp
          refine (same_wo Q1 Q2 e1 e2 _ _ _ HV.out s1 s2 (wo_small (by omega))).mono ?_
          rintro e x ⟨rfl, hx⟩
          go_wp2_with fail
          refine hK.out (.bool true) _ _ ?_ ?_ rfl
          · (simp only [Act.put, List.setIfInBounds_toArray, List.set_cons_zero, List.set_cons_succ, List.nil_append, List.cons_append])
          · exact (by repeat' (first | with_reducible exact Below.refl _ _ | with_reducible assumption | with_reducible apply Below.drew | with_reducible apply below_drewN | with_reducible apply Below.alloc | with_reducible apply Below.setCell | (with_reducible refine Below.trans ?_ (Below.mono (by assumption) ?_)) | (simp; done) | (simp; omega) | omega | with_reducible apply le_size_alloc | with_reducible apply le_size_drewN | with_reducible apply le_size_drew | with_reducible apply le_size_setCell | with_reducible refine Nat.le_trans ?_ (Below.size (by assumption))))
        (try simp only [Act.put, List.setIfInBounds_toArray, List.set_cons_zero, List.set_cons_succ, List.nil_append, List.cons_append])
        refine chain_is (step_take (by rfl) ?yr2n22) ?rr2n22
        case yr2n22 =>
          intro w hbw hd
          clear hd
          go_simp
          first | done | with_reducible rfl
        (try simp only [Act.put, List.setIfInBounds_toArray, List.set_cons_zero, List.set_cons_succ, List.nil_append, List.cons_append])
        refine chain_is (step_take (by rfl) ?yr2n23) ?rr2n23
        case yr2n23 =>
          intro w hbw hd
          clear hd
          go_simp
          first | done | with_reducible rfl
        (try simp only [Act.put, List.setIfInBounds_toArray, List.set_cons_zero, List.set_cons_succ, List.nil_append, List.cons_append])
        refine chain_is (step_take (by rfl) ?yr2n24) ?rr2n24
        case yr2n24 =>
          intro w hbw hd
          clear hd
          go_simp
          first | done | with_reducible rfl
        (try simp only [Act.put, List.setIfInBounds_toArray, List.set_cons_zero, List.set_cons_succ, List.nil_append, List.cons_append])
        refine chain_is (step_take (by rfl) ?yr2n25) ?rr2n25
        case yr2n25 =>
          intro w hbw hd
          clear hd
          go_simp
          first | done | with_reducible rfl
        (try simp only [Act.put, List.setIfInBounds_toArray, List.set_cons_zero, List.set_cons_succ, List.nil_append, List.cons_append])
        refine chain_is (step_take (by rfl) ?yr2n26) ?rr2n26
        case yr2n26 =>
          intro w hbw hd
          clear hd
          go_simp
          first | done | with_reducible rfl
        (try simp only [Act.put, List.setIfInBounds_toArray, List.set_cons_zero, List.set_cons_succ, List.nil_append, List.cons_append])
        refine chain_is (step_take (by rfl) ?yr2n27) ?rr2n27
        case yr2n27 =>
          intro w hbw hd
          clear hd
          go_simp
          first | done | with_reducible rfl
        (try simp only [Act.put, List.setIfInBounds_toArray, List.set_cons_zero, List.set_cons_succ, List.nil_append, List.cons_append])
        refine chain_is (step_take (by rfl) ?yr2n28) ?rr2n28
        case yr2n28 =>
          intro w hbw hd
          have r2 : w.cell? ⟨x3.heap.size, 2, none⟩ = some (.slice (some ⟨bS, oS, none⟩) ss.length d3) := cell_keep hbw qA2 zA
          clear hd
          go_simp
          first | done | with_reducible rfl
        (try simp only [Act.put, List.setIfInBounds_toArray, List.set_cons_zero, List.set_cons_succ, List.nil_append, List.cons_append])
        refine chain_is (step_take (by rfl) ?yr2n29) ?rr2n29
        case yr2n29 =>
          intro w hbw hd
          clear hd
          go_simp
          first | done | with_reducible rfl
        (try simp only [Act.put, List.setIfInBounds_toArray, List.set_cons_zero, List.set_cons_succ, List.nil_append, List.cons_append])
        refine chain_is (step_take (by rfl) ?yr2n30) ?rr2n30
        case yr2n30 =>
          intro w hbw hd
          clear hd
          go_simp
          first | done | with_reducible rfl
        (try simp only [Act.put, List.setIfInBounds_toArray, List.set_cons_zero, List.set_cons_succ, List.nil_append, List.cons_append])
        refine chain_is (step_take (by rfl) ?yr2n31) ?rr2n31
        case yr2n31 =>
          intro w hbw hd
          have r9 : w.cell? ⟨bS, oS + G, none⟩ = some (.bool false) := cell_keep hbw (cell_keep hb0 HCS0.out HZS0.out) (Nat.lt_of_lt_of_le HZS0.out hb0.size)
          clear hd
          go_simp
          first | done | with_reducible rfl
        (try simp only [Act.put, List.setIfInBounds_toArray, List.set_cons_zero, List.set_cons_succ, List.nil_append, List.cons_append])
        refine chain_is (step_take (by rfl) ?yr2n32) ?rr2n32
        case yr2n32 =>
          intro w hbw hd
          clear hd
          go_simp
          first | done | with_reducible rfl
        (try simp only [Act.put, List.setIfInBounds_toArray, List.set_cons_zero, List.set_cons_succ, List.nil_append, List.cons_append])
        refine chain_is (step_take (by rfl) ?yr2n33) ?rr2n33
        case yr2n33 =>
          intro w hbw hd
          clear hd
          go_simp
          first | done | with_reducible rfl
        (try simp only [Act.put, List.setIfInBounds_toArray, List.set_cons_zero, List.set_cons_succ, List.nil_append, List.cons_append])
        refine chain_is (step_take (by rfl) ?yr2n34) ?rr2n34
        case yr2n34 =>
          intro w hbw hd
          clear hd
          go_simp
          first | done | with_reducible rfl
        (try simp only [Act.put, List.setIfInBounds_toArray, List.set_cons_zero, List.set_cons_succ, List.nil_append, List.cons_append])
        refine chain_is (step_take (by rfl) ?yr2n35) ?rr2n35
        case yr2n35 =>
          intro w hbw hd
          clear hd
          go_simp
          first | done | with_reducible rfl
        (try simp only [Act.put, List.setIfInBounds_toArray, List.set_cons_zero, List.set_cons_succ, List.nil_append, List.cons_append])
        refine chain_end (fun wz hbz hd => ?_)
        clear hd
        have bw3 : Below W0.heap.size W0 wz := (by repeat' (first | with_reducible exact Below.refl _ _ | with_reducible assumption | with_reducible apply Below.drew | with_reducible apply below_drewN | with_reducible apply Below.alloc | with_reducible apply Below.setCell | (with_reducible refine Below.trans ?_ (Below.mono (by assumption) ?_)) | (simp; done) | (simp; omega) | omega | with_reducible apply le_size_alloc | with_reducible apply le_size_drewN | with_reducible apply le_size_drew | with_reducible apply le_size_setCell | with_reducible refine Nat.le_trans ?_ (Below.size (by assumption))))
        have L_3 : Hid (Blk wz w2.heap.size 25 #[.slice A1 xs.length c1, .slice A2 ys.length c2, .slice A3 rs.length c3]) := L_1.out.below_ bw3 L_1.out.lt
        have A_3 : Hid (Blk wz x3.heap.size 25 #[.slice B1 us.length d1, .slice B2 vs.length d2, .slice (some ⟨bS, oS, none⟩) ss.length d3]) := A_1.out.below_ bw3 A_1.out.lt
        have ML_3 : Hid (InMem wz A1 A2 A3 xs ys rs) := ML_1.out.ext bw3
        have MA_3 : Hid (InMem wz B1 B2 (some ⟨bS, oS, none⟩) us vs ss) := MA_1.out.ext bw3
        have HB_3 : Hid (Below w.heap.size w wz) := HB_1.out.trans (bw3.mono HB_1.out.size)
        clear bw3 hbz L_1 A_1 ML_1 MA_1 HB_1
        clear hz0 bw1 hb0 KL KA ML MA HB qL0 qL1 qL2 zL qA0 qA1 qA2 zA
        obtain ⟨x2, rfl⟩ : ∃ x2 : World, x2 = wz := ⟨_, rfl⟩
        go_wp2_with fail
        go_ret
        exact ⟨by first | rfl | simp, HB_3.out⟩
  · subst HW
    obtain ⟨f0, f1, hwu, hwv, hoff⟩ := hone.fr (by omega)
    obtain ⟨G, rfl⟩ : ∃ G : Nat, f = G := ⟨f.toNat, by omega⟩
    obtain ⟨g1, g2, g3, hbit⟩ := hone.wr rfl
    obtain rfl := g1.symm
    obtain rfl := g2.symm
    obtain rfl := g3.symm
    rw [Int.toNat_natCast] at hbit
    have hG : G < 20 := by omega
    have hG0 : ¬ (20 : Int) ≤ G := by omega
    have hwg : IntKind.i64.wrap (G : Int) = G := by rw [IntKind.wrap_i64]; omega
    have HBIT := Lib.hid hbit
    clear hoff hbit hwu hwv f0 f1
    clear hone
    have q0 : W.cell? ⟨w2.heap.size, 0, none⟩ = some (.slice A1 xs.length c1) := (KL.out.cell_ 0).trans (by simp)
    have q1 : W.cell? ⟨w2.heap.size, 1, none⟩ = some (.slice A2 ys.length c2) := (KL.out.cell_ 1).trans (by simp)
    have q2 : W.cell? ⟨w2.heap.size, 2, none⟩ = some (.slice A3 rs.length c3) := (KL.out.cell_ 2).trans (by simp)
    have p0 : W.cell? ⟨x3.heap.size, 0, none⟩ = some (.slice B1 xs.length d1) := (KA.out.cell_ 0).trans (by simp)
    have p1 : W.cell? ⟨x3.heap.size, 1, none⟩ = some (.slice B2 ys.length d2) := (KA.out.cell_ 1).trans (by simp)
    have p2 : W.cell? ⟨x3.heap.size, 2, none⟩ = some (.slice B3 rs.length d3) := (KA.out.cell_ 2).trans (by simp)
    go_wp2_with fail
    refine (MA.out.check d1 d2 d3).mono ?_
    rw [HCA.out]
    rintro e x5 ⟨rfl, h5⟩
    clear q0 q1 q2 p0 p1 p2
    have KL_ := Lib.hid (KL.out.below_ h5 KL.out.lt); have KA_ := Lib.hid (KA.out.below_ h5 KA.out.lt); have ML_ := Lib.hid (ML.out.ext h5); have MA_ := Lib.hid (MA.out.ext h5); have HB_ := Lib.hid (HB.out.trans (h5.mono HB.out.size))
    clear KL KA ML MA HB h5
    obtain ⟨⟨KL, KA⟩, ⟨ML, MA⟩, HB⟩ := And.intro (And.intro KL_ KA_) (And.intro (And.intro ML_ MA_) HB_)
    clear KL_ KA_ ML_ MA_ HB_
    have zL := KL.out.lt
    have zA := KA.out.lt
    have q0 : x5.cell? ⟨w2.heap.size, 0, none⟩ = some (.slice A1 xs.length c1) := (KL.out.cell_ 0).trans (by simp)
    have q1 : x5.cell? ⟨w2.heap.size, 1, none⟩ = some (.slice A2 ys.length c2) := (KL.out.cell_ 1).trans (by simp)
    have q2 : x5.cell? ⟨w2.heap.size, 2, none⟩ = some (.slice A3 rs.length c3) := (KL.out.cell_ 2).trans (by simp)
    have p0 : x5.cell? ⟨x3.heap.size, 0, none⟩ = some (.slice B1 xs.length d1) := (KA.out.cell_ 0).trans (by simp)
    have p1 : x5.cell? ⟨x3.heap.size, 1, none⟩ = some (.slice B2 ys.length d2) := (KA.out.cell_ 1).trans (by simp)
    have p2 : x5.cell? ⟨x3.heap.size, 2, none⟩ = some (.slice B3 rs.length d3) := (KA.out.cell_ 2).trans (by simp)
    obtain ⟨bR, oR, x, hAe, hbR, hx, hcR⟩ := ML.out.r.at_ (k := G) (by omega)
    rw [HBIT.out] at hx
    injection hx with hx
    subst hx
    rw [hAe] at q2
    have HAE := Lib.hid hAe
    clear hAe
    have iG : (G : Int) < rs.length := by omega
    go_wp2_with fail
    refine (same_lists B1 B2 B3 A1 A2 (some ⟨bR, oR, none⟩) d1 d2 d3 c1 c2 c3 xs ys rs _ MA.out (by have := ML.out; rw [HAE.out] at this; exact this) (by omega) (by omega) (by omega)).mono ?_
    rintro e x6 ⟨rfl, h6⟩
    clear q0 q1 q2 p0 p1 p2
    clear hcR hbR
    have KL_ := Lib.hid (KL.out.below_ h6 KL.out.lt); have KA_ := Lib.hid (KA.out.below_ h6 KA.out.lt); have ML_ := Lib.hid (ML.out.ext h6); have MA_ := Lib.hid (MA.out.ext h6); have HB_ := Lib.hid (HB.out.trans (h6.mono HB.out.size))
    clear KL KA ML MA HB h6
    obtain ⟨⟨KL, KA⟩, ⟨ML, MA⟩, HB⟩ := And.intro (And.intro KL_ KA_) (And.intro (And.intro ML_ MA_) HB_)
    clear KL_ KA_ ML_ MA_ HB_
    have zL := KL.out.lt
    have zA := KA.out.lt
    go_wp2_with fail
    go_loopw [11] (fun i wr => ∃ k : Nat, k ≤ 20 ∧ i = .int .i64 k ∧ Below x6.heap.size x6 wr) (fun i _ => 20 - (intOf i).toNat)
    case atStart => exact ⟨0, by omega, rfl, Below.refl _ _⟩
    case round =>
      obtain ⟨k, hk, rfl, hb⟩ := hrel
      have HBK := Lib.hid hb
      have KL_ := Lib.hid (KL.out.below_ hb KL.out.lt); have KA_ := Lib.hid (KA.out.below_ hb KA.out.lt); have ML_ := Lib.hid (ML.out.ext hb); have MA_ := Lib.hid (MA.out.ext hb); have HB_ := Lib.hid (HB.out.trans (hb.mono HB.out.size))
      clear KL KA ML MA HB hb
      obtain ⟨⟨KL, KA⟩, ⟨ML, MA⟩, HB⟩ := And.intro (And.intro KL_ KA_) (And.intro (And.intro ML_ MA_) HB_)
      clear KL_ KA_ ML_ MA_ HB_
      have zL := KL.out.lt
      have zA := KA.out.lt
      by_cases hlt : k < 20
      · have q0 : wr.cell? ⟨w2.heap.size, 0, none⟩ = some (.slice A1 xs.length c1) := (KL.out.cell_ 0).trans (by simp)
        have q1 : wr.cell? ⟨w2.heap.size, 1, none⟩ = some (.slice A2 ys.length c2) := (KL.out.cell_ 1).trans (by simp)
        have q2 : wr.cell? ⟨w2.heap.size, 2, none⟩ = some (.slice A3 rs.length c3) := (KL.out.cell_ 2).trans (by simp)
        have p0 : wr.cell? ⟨x3.heap.size, 0, none⟩ = some (.slice B1 xs.length d1) := (KA.out.cell_ 0).trans (by simp)
        have p1 : wr.cell? ⟨x3.heap.size, 1, none⟩ = some (.slice B2 ys.length d2) := (KA.out.cell_ 1).trans (by simp)
        have p2 : wr.cell? ⟨x3.heap.size, 2, none⟩ = some (.slice B3 rs.length d3) := (KA.out.cell_ 2).trans (by simp)
        obtain ⟨bR, oR, x, hAe, hbR, hx, hcR⟩ := ML.out.r.at_ (k := k) (by omega)
        obtain ⟨bS, oS, y, hBe, hbS, hy, hcS⟩ := MA.out.r.at_ (k := k) (by omega)
        subst hAe 
        have i1 : (k : Int) < rs.length := by omega
        have i2 : (k : Int) < rs.length := by omega
        have i3 : (k : Int) < 20 := by omega
        have hwk : IntKind.i64.wrap (k : Int) = k := by rw [IntKind.wrap_i64]; omega
        by_cases hkG : k = G
        · subst hkG
          have e0 : ((k : Int) != (k : Int)) = false := by simp
          clear hx hy
          go_wp2_with fail
          go_quiet (fail)
          go_wp2_with fail
          go_roundw
          case rel => exact ⟨k + 1, by omega, by go_num, (by have hb := HBK.out; exact (by repeat' (first | with_reducible exact Below.refl _ _ | with_reducible assumption | with_reducible apply Below.drew | with_reducible apply below_drewN | with_reducible apply Below.alloc | with_reducible apply Below.setCell | (with_reducible refine Below.trans ?_ (Below.mono (by assumption) ?_)) | (simp; done) | (simp; omega) | omega | with_reducible apply le_size_alloc | with_reducible apply le_size_drewN | with_reducible apply le_size_drew | with_reducible apply le_size_setCell | refine Nat.le_trans ?_ (Below.size (by assumption)))))⟩
          case measure => simp [intOf]; omega
        · have hyx := hy.symm.trans hx
          injection hyx with hyx
          subst hyx
          have e0 : ((k : Int) != (G : Int)) = true := by simp; omega
          clear hx hy
          cases y
          all_goals
            go_wp2_with fail
            go_quiet (fail)
            go_wp2_with fail
            go_roundw
            case rel => exact ⟨k + 1, by omega, by go_num, (by have hb := HBK.out; exact (by repeat' (first | with_reducible exact Below.refl _ _ | with_reducible assumption | with_reducible apply Below.drew | with_reducible apply below_drewN | with_reducible apply Below.alloc | with_reducible apply Below.setCell | (with_reducible refine Below.trans ?_ (Below.mono (by assumption) ?_)) | (simp; done) | (simp; omega) | omega | with_reducible apply le_size_alloc | with_reducible apply le_size_drewN | with_reducible apply le_size_drew | with_reducible apply le_size_setCell | refine Nat.le_trans ?_ (Below.size (by assumption)))))⟩
            case measure => simp [intOf]; omega
      · have i3 : ¬ (k : Int) < 20 := by omega
        go_wp2_with fail
        refine wp_region_chain (.is ?fr3n0 :: .is ?fr3n1 :: .is ?fr3n2 :: .is ?fr3n3 :: .is ?fr3n4 :: .has (NewS (wo G xs)) :: .is ?fr3n6 :: .is ?fr3n7 :: .is ?fr3n8 :: .has (NewS (wo G xs)) :: .is (.bool true) :: .is ?fr3n11 :: .is ?fr3n12 :: .is ?fr3n13 :: .is ?fr3n14 :: .is ?fr3n15 :: .has (NewS (wo G ys)) :: .is ?fr3n17 :: .is ?fr3n18 :: .is ?fr3n19 :: .has (NewS (wo G ys)) :: .is (.bool true) :: .is ?fr3n22 :: .is ?fr3n23 :: .is ?fr3n24 :: .is ?fr3n25 :: .is ?fr3n26 :: .is undef :: .is undef :: .is undef :: .is undef :: .is undef :: .is undef :: .is ?fr3n33 :: .is ?fr3n34 :: .is ?fr3n35 :: []) (by kernel_rfl) (by kernel_rfl) (by kernel_rfl) (lasts_is (lasts_is (lasts_is (lasts_is (lasts_is (lasts_has (NewS.lasts (wo G xs)) (lasts_is (lasts_is (lasts_is (lasts_has (NewS.lasts (wo G xs)) (lasts_is (lasts_is (lasts_is (lasts_is (lasts_is (lasts_is (lasts_has (NewS.lasts (wo G ys)) (lasts_is (lasts_is (lasts_is (lasts_has (NewS.lasts (wo G ys)) (lasts_is (lasts_is (lasts_is (lasts_is (lasts_is (lasts_is (lasts_is (lasts_is (lasts_is (lasts_is (lasts_is (lasts_is (lasts_is (lasts_is (lasts_is lasts_nil)))))))))))))))))))))))))))))))))))) (fun W0 hb0 hz0 => ?_)
        rotate_left 24
        have bw1 : Below wr.heap.size wr W0 := (by repeat' (first | with_reducible exact Below.refl _ _ | with_reducible assumption | with_reducible apply Below.drew | with_reducible apply below_drewN | with_reducible apply Below.alloc | with_reducible apply Below.setCell | (with_reducible refine Below.trans ?_ (Below.mono (by assumption) ?_)) | (simp; done) | (simp; omega) | omega | with_reducible apply le_size_alloc | with_reducible apply le_size_drewN | with_reducible apply le_size_drew | with_reducible apply le_size_setCell | with_reducible refine Nat.le_trans ?_ (Below.size (by assumption))))
        have L_1 : Hid (Blk W0 w2.heap.size 25 #[.slice A1 xs.length c1, .slice A2 ys.length c2, .slice A3 rs.length c3]) := KL.out.below_ bw1 KL.out.lt
        have A_1 : Hid (Blk W0 x3.heap.size 25 #[.slice B1 xs.length d1, .slice B2 ys.length d2, .slice B3 rs.length d3]) := KA.out.below_ bw1 KA.out.lt
        have ML_1 : Hid (InMem W0 A1 A2 A3 xs ys rs) := ML.out.ext bw1
        have MA_1 : Hid (InMem W0 B1 B2 B3 xs ys rs) := MA.out.ext bw1
        have HB_1 : Hid (Below w.heap.size w W0) := HB.out.trans (bw1.mono HB.out.size)
        have qL0 : W0.cell? ⟨w2.heap.size, 0, none⟩ = some (.slice A1 xs.length c1) := (L_1.out.cell_ 0).trans (by simp)
        have qL1 : W0.cell? ⟨w2.heap.size, 1, none⟩ = some (.slice A2 ys.length c2) := (L_1.out.cell_ 1).trans (by simp)
        have qL2 : W0.cell? ⟨w2.heap.size, 2, none⟩ = some (.slice A3 rs.length c3) := (L_1.out.cell_ 2).trans (by simp)
        have zL : w2.heap.size < W0.heap.size := L_1.out.lt
        have qA0 : W0.cell? ⟨x3.heap.size, 0, none⟩ = some (.slice B1 xs.length d1) := (A_1.out.cell_ 0).trans (by simp)
        have qA1 : W0.cell? ⟨x3.heap.size, 1, none⟩ = some (.slice B2 ys.length d2) := (A_1.out.cell_ 1).trans (by simp)
        have qA2 : W0.cell? ⟨x3.heap.size, 2, none⟩ = some (.slice B3 rs.length d3) := (A_1.out.cell_ 2).trans (by simp)
        have zA : x3.heap.size < W0.heap.size := A_1.out.lt
        refine chain_is (step_take (by rfl) ?yr3n0) ?rr3n0
        case yr3n0 =>
          intro w hbw hd
          clear hd
          go_simp
          first | done | with_reducible rfl
        (try simp only [Act.put, List.setIfInBounds_toArray, List.set_cons_zero, List.set_cons_succ, List.nil_append, List.cons_append])
        refine chain_is (step_take (by rfl) ?yr3n1) ?rr3n1
        case yr3n1 =>
          intro w hbw hd
          clear hd
          go_simp
          first | done | with_reducible rfl
        (try simp only [Act.put, List.setIfInBounds_toArray, List.set_cons_zero, List.set_cons_succ, List.nil_append, List.cons_append])
        refine chain_is (step_take (by rfl) ?yr3n2) ?rr3n2
        case yr3n2 =>
          intro w hbw hd
          clear hd
          go_simp
          first | done | with_reducible rfl
        (try simp only [Act.put, List.setIfInBounds_toArray, List.set_cons_zero, List.set_cons_succ, List.nil_append, List.cons_append])
        refine chain_is (step_take (by rfl) ?yr3n3) ?rr3n3
        case yr3n3 =>
          intro w hbw hd
          have r0 : w.cell? ⟨x3.heap.size, 0, none⟩ = some (.slice B1 xs.length d1) := cell_keep hbw qA0 zA
          clear hd
          go_simp
          first | done | with_reducible rfl
        (try simp only [Act.put, List.setIfInBounds_toArray, List.set_cons_zero, List.set_cons_succ, List.nil_append, List.cons_append])
        refine chain_is (step_take (by rfl) ?yr3n4) ?rr3n4
        case yr3n4 =>
          intro w hbw hd
          clear hd
          go_simp
          first | done | with_reducible rfl
        (try simp only [Act.put, List.setIfInBounds_toArray, List.set_cons_zero, List.set_cons_succ, List.nil_append, List.cons_append])
        refine chain_has ?sr3n5 (fun vr3n5 => ?rr3n5)
        case sr3n5 =>
          intro w hbw hd K Q' hK
          clear hd
          go_simp
          refine (withoutZ_any B1 d1 xs G _ ((MA_1.out.a).ext hbw) (by omega)).mono ?_
          rintro e x ⟨A5, c5, rfl, ho5, hx⟩
          go_wp2_with fail
          refine hK.out (.slice A5 (wo G xs).length c5) _ _ ?_ ?_ ?_
          · (simp only [Act.put, List.setIfInBounds_toArray, List.set_cons_zero, List.set_cons_succ, List.nil_append, List.cons_append])
          · exact (by repeat' (first | with_reducible exact Below.refl _ _ | with_reducible assumption | with_reducible apply Below.drew | with_reducible apply below_drewN | with_reducible apply Below.alloc | with_reducible apply Below.setCell | (with_reducible refine Below.trans ?_ (Below.mono (by assumption) ?_)) | (simp; done) | (simp; omega) | omega | with_reducible apply le_size_alloc | with_reducible apply le_size_drewN | with_reducible apply le_size_drew | with_reducible apply le_size_setCell | with_reducible refine Nat.le_trans ?_ (Below.size (by assumption))))
          · exact ⟨A5, c5, rfl, ho5.sl_⟩
        (try simp only [Act.put, List.setIfInBounds_toArray, List.set_cons_zero, List.set_cons_succ, List.nil_append, List.cons_append])
        refine chain_is (step_take (by rfl) ?yr3n6) ?rr3n6
        case yr3n6 =>
          intro w hbw hd
          clear hd
          go_simp
          first | done | with_reducible rfl
        (try simp only [Act.put, List.setIfInBounds_toArray, List.set_cons_zero, List.set_cons_succ, List.nil_append, List.cons_append])
        refine chain_is (step_take (by rfl) ?yr3n7) ?rr3n7
        case yr3n7 =>
          intro w hbw hd
          have r0 : w.cell? ⟨w2.heap.size, 0, none⟩ = some (.slice A1 xs.length c1) := cell_keep hbw qL0 zL
          clear hd
          go_simp
          first | done | with_reducible rfl
        (try simp only [Act.put, List.setIfInBounds_toArray, List.set_cons_zero, List.set_cons_succ, List.nil_append, List.cons_append])
        refine chain_is (step_take (by rfl) ?yr3n8) ?rr3n8
        case yr3n8 =>
          intro w hbw hd
          clear hd
          go_simp
          first | done | with_reducible rfl
        (try simp only [Act.put, List.setIfInBounds_toArray, List.set_cons_zero, List.set_cons_succ, List.nil_append, List.cons_append])
        refine chain_has ?sr3n9 (fun vr3n9 => ?rr3n9)
        case sr3n9 =>
          intro w hbw hd K Q' hK
          clear hd
          go_simp
          refine (withoutZ_any A1 c1 xs G _ ((ML_1.out.a).ext hbw) (by omega)).mono ?_
          rintro e x ⟨A5, c5, rfl, ho5, hx⟩
          go_wp2_with fail
          refine hK.out (.slice A5 (wo G xs).length c5) _ _ ?_ ?_ ?_
          · (simp only [Act.put, List.setIfInBounds_toArray, List.set_cons_zero, List.set_cons_succ, List.nil_append, List.cons_append])
          · exact (by repeat' (first | with_reducible exact Below.refl _ _ | with_reducible assumption | with_reducible apply Below.drew | with_reducible apply below_drewN | with_reducible apply Below.alloc | with_reducible apply Below.setCell | (with_reducible refine Below.trans ?_ (Below.mono (by assumption) ?_)) | (simp; done) | (simp; omega) | omega | with_reducible apply le_size_alloc | with_reducible apply le_size_drewN | with_reducible apply le_size_drew | with_reducible apply le_size_setCell | with_reducible refine Nat.le_trans ?_ (Below.size (by assumption))))
          · exact ⟨A5, c5, rfl, ho5.sl_⟩
        (try simp only [Act.put, List.setIfInBounds_toArray, List.set_cons_zero, List.set_cons_succ, List.nil_append, List.cons_append])
        refine chain_is ?sr3n10 ?rr3n10
        case sr3n10 =>
          intro w hbw hd K Q' hK
          obtain ⟨Q1, e1, rfl, s1⟩ : NewS (wo G xs) _ w := hd 5 _ _ (by rfl) rfl rfl
          obtain ⟨Q2, e2, rfl, s2⟩ : NewS (wo G xs) _ w := hd 9 _ _ (by rfl) rfl rfl
          clear hd
          go_simp
          refine (same_wo Q1 Q2 e1 e2 _ _ _ rfl s1 s2 (wo_small (by omega))).mono ?_
          rintro e x ⟨rfl, hx⟩
          go_wp2_with fail
          refine hK.out (.bool true) _ _ ?_ ?_ rfl
          · (simp only [Act.put, List.setIfInBounds_toArray, List.set_cons_zero, List.set_cons_succ, List.nil_append, List.cons_append])
          · exact (by repeat' (first | with_reducible exact Below.refl _ _ | with_reducible assumption | with_reducible apply Below.drew | with_reducible apply below_drewN | with_reducible apply Below.alloc | with_reducible apply Below.setCell | (with_reducible refine Below.trans ?_ (Below.mono (by assumption) ?_)) | (simp; done) | (simp; omega) | omega | with_reducible apply le_size_alloc | with_reducible apply le_size_drewN | with_reducible apply le_size_drew | with_reducible apply le_size_setCell | with_reducible refine Nat.le_trans ?_ (Below.size (by assumption))))
        (try simp only [Act.put, List.setIfInBounds_toArray, List.set_cons_zero, List.set_cons_succ, List.nil_append, List.cons_append])
        refine chain_is (step_take (by rfl) ?yr3n11) ?rr3n11
        case yr3n11 =>
          intro w hbw hd
          clear hd
          go_simp
          first | done | with_reducible rfl
        (try simp only [Act.put, List.setIfInBounds_toArray, List.set_cons_zero, List.set_cons_succ, List.nil_append, List.cons_append])
        refine chain_is (step_take (by rfl) ?yr3n12) ?rr3n12
        case yr3n12 =>
          intro w hbw hd
          clear hd
          go_simp
          first | done | with_reducible rfl
        (try simp only [Act.put, List.setIfInBounds_toArray, List.set_cons_zero, List.set_cons_succ, List.nil_append, List.cons_append])
        refine chain_is (step_take (by rfl) ?yr3n13) ?rr3n13
        case yr3n13 =>
          intro w hbw hd
          clear hd
          go_simp
          first | done | with_reducible rfl
        (try simp only [Act.put, List.setIfInBounds_toArray, List.set_cons_zero, List.set_cons_succ, List.nil_append, List.cons_append])
        refine chain_is (step_take (by rfl) ?yr3n14) ?rr3n14
        case yr3n14 =>
          intro w hbw hd
          have r1 : w.cell? ⟨x3.heap.size, 1, none⟩ = some (.slice B2 ys.length d2) := cell_keep hbw qA1 zA
          clear hd
          go_simp
          first | done | with_reducible rfl
        (try simp only [Act.put, List.setIfInBounds_toArray, List.set_cons_zero, List.set_cons_succ, List.nil_append, List.cons_append])
        refine chain_is (step_take (by rfl) ?yr3n15) ?rr3n15
        case yr3n15 =>
          intro w hbw hd
          clear hd
          go_simp
          first | done | with_reducible rfl
        (try simp only [Act.put, List.setIfInBounds_toArray, List.set_cons_zero, List.set_cons_succ, List.nil_append, List.cons_append])
        refine chain_has ?sr3n16 (fun vr3n16 => ?rr3n16)
        case sr3n16 =>
          intro w hbw hd K Q' hK
          clear hd
          go_simp
          refine (withoutZ_any B2 d2 ys G _ ((MA_1.out.i).ext hbw) (by omega)).mono ?_
          rintro e x ⟨A5, c5, rfl, ho5, hx⟩
          go_wp2_with fail
          refine hK.out (.slice A5 (wo G ys).length c5) _ _ ?_ ?_ ?_
          · (simp only [Act.put, List.setIfInBounds_toArray, List.set_cons_zero, List.set_cons_succ, List.nil_append, List.cons_append])
          · exact (by repeat' (first | with_reducible exact Below.refl _ _ | with_reducible assumption | with_reducible apply Below.drew | with_reducible apply below_drewN | with_reducible apply Below.alloc | with_reducible apply Below.setCell | (with_reducible refine Below.trans ?_ (Below.mono (by assumption) ?_)) | (simp; done) | (simp; omega) | omega | with_reducible apply le_size_alloc | with_reducible apply le_size_drewN | with_reducible apply le_size_drew | with_reducible apply le_size_setCell | with_reducible refine Nat.le_trans ?_ (Below.size (by assumption))))
          · exact ⟨A5, c5, rfl, ho5.sl_⟩
        (try simp only [Act.put, List.setIfInBounds_toArray, List.set_cons_zero, List.set_cons_succ, List.nil_append, List.cons_append])
        refine chain_is (step_take (by rfl) ?yr3n17) ?rr3n17
        case yr3n17 =>
          intro w hbw hd
          clear hd
          go_simp
          first | done | with_reducible rfl
        (try simp only [Act.put, List.setIfInBounds_toArray, List.set_cons_zero, List.set_cons_succ, List.nil_append, List.cons_append])
        refine chain_is (step_take (by rfl) ?yr3n18) ?rr3n18
        case yr3n18 =>
          intro w hbw hd
          have r1 : w.cell? ⟨w2.heap.size, 1, none⟩ = some (.slice A2 ys.length c2) := cell_keep hbw qL1 zL
          clear hd
          go_simp
          first | done | with_reducible rfl
        (try simp only [Act.put, List.setIfInBounds_toArray, List.set_cons_zero, List.set_cons_succ, List.nil_append, List.cons_append])
        refine chain_is (step_take (by rfl) ?yr3n19) ?rr3n19
        case yr3n19 =>
          intro w hbw hd
          clear hd
          go_simp
          first | done | with_reducible rfl
        (try simp only [Act.put, List.setIfInBounds_toArray, List.set_cons_zero, List.set_cons_succ, List.nil_append, List.cons_append])
        refine chain_has ?sr3n20 (fun vr3n20 => ?rr3n20)
        case sr3n20 =>
          intro w hbw hd K Q' hK
          clear hd
          go_simp
          refine (withoutZ_any A2 c2 ys G _ ((ML_1.out.i).ext hbw) (by omega)).mono ?_
          rintro e x ⟨A5, c5, rfl, ho5, hx⟩
          go_wp2_with fail
          refine hK.out (.slice A5 (wo G ys).length c5) _ _ ?_ ?_ ?_
          · (simp only [Act.put, List.setIfInBounds_toArray, List.set_cons_zero, List.set_cons_succ, List.nil_append, List.cons_append])
          · exact (by repeat' (first | with_reducible exact Below.refl _ _ | with_reducible assumption | with_reducible apply Below.drew | with_reducible apply below_drewN | with_reducible apply Below.alloc | with_reducible apply Below.setCell | (with_reducible refine Below.trans ?_ (Below.mono (by assumption) ?_)) | (simp; done) | (simp; omega) | omega | with_reducible apply le_size_alloc | with_reducible apply le_size_drewN | with_reducible apply le_size_drew | with_reducible apply le_size_setCell | with_reducible refine Nat.le_trans ?_ (Below.size (by assumption))))
          · exact ⟨A5, c5, rfl, ho5.sl_⟩
        (try simp only [Act.put, List.setIfInBounds_toArray, List.set_cons_zero, List.set_cons_succ, List.nil_append, List.cons_append])
        refine chain_is ?sr3n21 ?rr3n21
        case sr3n21 =>
          intro w hbw hd K Q' hK
          obtain ⟨Q1, e1, rfl, s1⟩ : NewS (wo G ys) _ w := hd 16 _ _ (by rfl) rfl rfl
          obtain ⟨Q2, e2, rfl, s2⟩ : NewS (wo G ys) _ w := hd 20 _ _ (by rfl) rfl rfl
          clear hd
          go_simp
          refine (same_wo Q1 Q2 e1 e2 _ _ _ rfl s1 s2 (wo_small (by omega))).mono ?_
          rintro e x ⟨rfl, hx⟩
          go_wp2_with fail
          refine hK.out (.bool true) _ _ ?_ ?_ rfl
          · (simp only [Act.put, List.setIfInBounds_toArray, List.set_cons_zero, List.set_cons_succ, List.nil_append, List.cons_append])
          · exact (by repeat' (first | with_reducible exact Below.refl _ _ | with_reducible assumption | with_reducible apply Below.drew | with_reducible apply below_drewN | with_reducible apply Below.alloc | with_reducible apply Below.setCell | (with_reducible refine Below.trans ?_ (Below.mono (by assumption) ?_)) | (simp; done) | (simp; omega) | omega | with_reducible apply le_size_alloc | with_reducible apply le_size_drewN | with_reducible apply le_size_drew | with_reducible apply le_size_setCell | with_reducible refine Nat.le_trans ?_ (Below.size (by assumption))))
        (try simp only [Act.put, List.setIfInBounds_toArray, List.set_cons_zero, List.set_cons_succ, List.nil_append, List.cons_append])
        refine chain_is (step_take (by rfl) ?yr3n22) ?rr3n22
        case yr3n22 =>
          intro w hbw hd
          clear hd
          go_simp
          first | done | with_reducible rfl
        (try simp only [Act.put, List.setIfInBounds_toArray, List.set_cons_zero, List.set_cons_succ, List.nil_append, List.cons_append])
        refine chain_is (step_take (by rfl) ?yr3n23) ?rr3n23
        case yr3n23 =>
          intro w hbw hd
          clear hd
          go_simp
          first | done | with_reducible rfl
        (try simp only [Act.put, List.setIfInBounds_toArray, List.set_cons_zero, List.set_cons_succ, List.nil_append, List.cons_append])
        refine chain_is (step_take (by rfl) ?yr3n24) ?rr3n24
        case yr3n24 =>
          intro w hbw hd
          clear hd
          go_simp
          first | done | with_reducible rfl
        (try simp only [Act.put, List.setIfInBounds_toArray, List.set_cons_zero, List.set_cons_succ, List.nil_append, List.cons_append])
        refine chain_is (step_take (by rfl) ?yr3n25) ?rr3n25
        case yr3n25 =>
          intro w hbw hd
          clear hd
          go_simp
          first | done | with_reducible rfl
        (try simp only [Act.put, List.setIfInBounds_toArray, List.set_cons_zero, List.set_cons_succ, List.nil_append, List.cons_append])
        refine chain_is (step_take (by rfl) ?yr3n26) ?rr3n26
        case yr3n26 =>
          intro w hbw hd
          clear hd
          go_simp
          first | done | with_reducible rfl
        (try simp only [Act.put, List.setIfInBounds_toArray, List.set_cons_zero, List.set_cons_succ, List.nil_append, List.cons_append])
        refine chain_is (step_un (by rfl)) ?rr3n27
        (try simp only [Act.put, List.setIfInBounds_toArray, List.set_cons_zero, List.set_cons_succ, List.nil_append, List.cons_append])
        refine chain_is (step_un (by rfl)) ?rr3n28
        (try simp only [Act.put, List.setIfInBounds_toArray, List.set_cons_zero, List.set_cons_succ, List.nil_append, List.cons_append])
        refine chain_is (step_un (by rfl)) ?rr3n29
        (try simp only [Act.put, List.setIfInBounds_toArray, List.set_cons_zero, List.set_cons_succ, List.nil_append, List.cons_append])
        refine chain_is (step_un (by rfl)) ?rr3n30
        (try simp only [Act.put, List.setIfInBounds_toArray, List.set_cons_zero, List.set_cons_succ, List.nil_append, List.cons_append])
        refine chain_is (step_un (by rfl)) ?rr3n31
        (try simp only [Act.put, List.setIfInBounds_toArray, List.set_cons_zero, List.set_cons_succ, List.nil_append, List.cons_append])
        refine chain_is (step_un (by rfl)) ?rr3n32
        (try simp only [Act.put, List.setIfInBounds_toArray, List.set_cons_zero, List.set_cons_succ, List.nil_append, List.cons_append])
        refine chain_is (step_take (by rfl) ?yr3n33) ?rr3n33
        case yr3n33 =>
          intro w hbw hd
          clear hd
          go_simp
          first | done | with_reducible rfl
        (try simp only [Act.put, List.setIfInBounds_toArray, List.set_cons_zero, List.set_cons_succ, List.nil_append, List.cons_append])
        refine chain_is (step_take (by rfl) ?yr3n34) ?rr3n34
        case yr3n34 =>
          intro w hbw hd
          clear hd
          go_simp
          first | done | with_reducible rfl
        (try simp only [Act.put, List.setIfInBounds_toArray, List.set_cons_zero, List.set_cons_succ, List.nil_append, List.cons_append])
        refine chain_is (step_take (by rfl) ?yr3n35) ?rr3n35
        case yr3n35 =>
          intro w hbw hd
          clear hd
          go_simp
          first | done | with_reducible rfl
        (try simp only [Act.put, List.setIfInBounds_toArray, List.set_cons_zero, List.set_cons_succ, List.nil_append, List.cons_append])
        refine chain_end (fun wz hbz hd => ?_)
        clear hd
        have bw3 : Below W0.heap.size W0 wz := (by repeat' (first | with_reducible exact Below.refl _ _ | with_reducible assumption | with_reducible apply Below.drew | with_reducible apply below_drewN | with_reducible apply Below.alloc | with_reducible apply Below.setCell | (with_reducible refine Below.trans ?_ (Below.mono (by assumption) ?_)) | (simp; done) | (simp; omega) | omega | with_reducible apply le_size_alloc | with_reducible apply le_size_drewN | with_reducible apply le_size_drew | with_reducible apply le_size_setCell | with_reducible refine Nat.le_trans ?_ (Below.size (by assumption))))
        have L_3 : Hid (Blk wz w2.heap.size 25 #[.slice A1 xs.length c1, .slice A2 ys.length c2, .slice A3 rs.length c3]) := L_1.out.below_ bw3 L_1.out.lt
        have A_3 : Hid (Blk wz x3.heap.size 25 #[.slice B1 xs.length d1, .slice B2 ys.length d2, .slice B3 rs.length d3]) := A_1.out.below_ bw3 A_1.out.lt
        have ML_3 : Hid (InMem wz A1 A2 A3 xs ys rs) := ML_1.out.ext bw3
        have MA_3 : Hid (InMem wz B1 B2 B3 xs ys rs) := MA_1.out.ext bw3
        have HB_3 : Hid (Below w.heap.size w wz) := HB_1.out.trans (bw3.mono HB_1.out.size)
        clear bw3 hbz L_1 A_1 ML_1 MA_1 HB_1
        clear hz0 bw1 hb0 KL KA ML MA HB qL0 qL1 qL2 zL qA0 qA1 qA2 zA
        obtain ⟨x2, rfl⟩ : ∃ x2 : World, x2 = wz := ⟨_, rfl⟩
        go_wp2_with fail
        go_ret
        exact ⟨by first | rfl | simp, HB_3.out⟩

set_option maxRecDepth 100000 in
theorem scanOne_lifted (os : Os) (started : os.Started) (H : Type) (enc : TypeId × Value → H) :
    ReturnsInHanded {} Try.checked os 6 .any (Rows.scanOneSpec.pre6 enc Try.prog Try.f6 Rows.scanOneRow.domain false) (Rows.scanOneSpec.post enc Try.prog Try.f6 false true false false) := by
  refine returnsInHanded_of_change (C := Try.checked) own started (by kernel_rfl) Try.func6
    (ChangeSpec.witness6 (enc := enc) (C := Try.checked) false ⟨#[], #[.slice none 0 0, .int .i64 0], []⟩ 8 (by kernel_rfl) (by kernel_rfl) (by kernel_rfl) (by kernel_rfl)) ?_
  intro W base args ds gs before hval0 hW hcnd _
  have hval : ∀ (j : Nat) t v, Try.f6.params[j]? = some t → args[j]? = some v → Value.okWide Try.prog W .any base t v := hval0
  have hW' := hW
  obtain ⟨p, q, hA0, hV, rfl, hfz, hnd⟩ := hW
  have hA : DataW.TrodAll enc Try.prog W 0 (fun _ => true) true Try.f6.params.toList args.toList ds p := hA0
  rw [Try.params6] at hA hval
  obtain ⟨v0, vs0, d0, ds0, p0, q0, hargs, rfl, rfl, h0, r0⟩ := trodAll_cons hA
  obtain ⟨v1, vs1, d1, ds1, p1, q1, rfl, rfl, rfl, h1, r1⟩ := trodAll_cons r0
  obtain ⟨rfl, rfl, rfl⟩ := trodAll_nil r1
  obtain rfl : args = #[v0, v1] := by cases args; simp_all
  obtain ⟨rfl, rfl⟩ := trodVars_none hV
  obtain ⟨A0, k0, a0, rfl, s0, w0, l0⟩ := open_slI Try.underlying22 Try.underlying3 (by kernel_rfl) (hval 0 22 v0 rfl rfl) h0
  obtain ⟨a1, rfl, rfl, rfl, w1⟩ := open_int Try.underlying3 (hval 1 3 v1 rfl rfl) h1
  clear hA0 hval0
  refine (scanOne_walk A0 k0 a0 a1 W s0 w0 l0 w1).mono fun e W' ⟨he, hb⟩ => ⟨_, he, ?_⟩
  exact law_post laidOut (s := Rows.scanOneSpec) (B := 4) rfl rfl Try.underlying4 (by decide +kernel) hW' rfl hb

theorem scanOne_holds : Rows.ScanOneSaid :=
  OpenClaim.holds_of_wide 6 Try.f6 rfl rfl rfl rfl rfl rfl rfl ⟨rfl, rfl, rfl, rfl, rfl⟩ rfl rfl rfl rfl rfl (by kernel_rfl) Try.func6 (by kernel_rfl)
    (of_decide_eq_true (by kernel_rfl)) (by unfold Func.isWrapper; first | (rw [if_pos (by decide +kernel)]; kernel_rfl) | (rw [if_neg (by decide +kernel)]; exact ⟨rfl, rfl⟩))
    (fun os started H enc _ => scanOne_lifted os started H enc)

end Go.Proofs.Ytiobbdfkimpfbaa
