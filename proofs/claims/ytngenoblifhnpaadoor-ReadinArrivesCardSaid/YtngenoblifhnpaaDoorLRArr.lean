/- ReadinArrives: without kills the page is mapped in the end, whatever the order of events, and the events of Shortest lower Needs one by one. Written by gen_rarr.py. -/
import Derived.Test.YtngenoblifhnpaaDoorLRKnown
import Derived.Test.YtngenoblifhnpaaDoorRiA
import Derived.Test.YtngenoblifhnpaaDoorFree2
namespace Go.Proofs.YtngenoblifhnpaaDoor
open Go.RowKit Go.Maps
open Go.ChangeShapes Go.WideShapes Go.ChangeAt Go.Joins

/-- An access, frames, a frame and no error. -/
def StpF (R : RI × List Int × Int × Int) (v : Value) (lo hi : Nat) (w : World) : Prop :=
  ∃ A c, v = .tuple #[.agg #[.int .i64 R.1.1, .int .i64 R.1.2.1, .int .i64 R.1.2.2], .slice A R.2.1.length c, .int .i64 R.2.2.1, .int .i64 R.2.2.2] ∧ IWn w lo A c R.2.1
theorem StpF.lasts (R : RI × List Int × Int × Int) : (Fk.has (StpF R)).lasts := fun _ _ _ _ _ ⟨A, c, e, h⟩ hb => ⟨A, c, e, h.ext hb⟩

set_option maxRecDepth 100000 in
set_option maxHeartbeats 16000000 in
theorem readinArrives_walk (n : Int) (A : Option Addr) (c : Nat) (nums : List Int) (w : World) (hwf : (Lit.int .i64 n).wf = true) (hs : Sl w (.int .i64) A nums) (hw : ∀ x ∈ nums, (Lit.int .i64 x).wf = true) (hl : nums.length ≤ maxLen) (hal : AL w) :
    Calls Tryd.prog 4 #[.int .i64 n, .slice A nums.length c] w fun e w' => e = .returned (.bool true) ∧ Below w.heap.size w w' := by
  have HAL := Lib.hid hal; have HS := Lib.hid hs
  unfold maxLen at hl
  clear hal hs hw hwf
  obtain ⟨g0, hg0⟩ : ∃ g, madW n = g := ⟨_, rfl⟩
  have HG0 : Hid (g0 = -1 ∨ (0 ≤ g0 ∧ g0 < 256)) := by show _ ∨ _; rw [← hg0]; exact madW_ok n
  have HMN := Lib.hid hg0
  clear hg0
  go_enter Tryd.func4, Tryd.ntmps4
  go_wp2_with fail
  refine (readinKnown_walk _ HAL.out).mono ?_
  rintro e w1 ⟨rfl, hb1⟩
  go_wp2_with fail
  refine (made_any n _).mono ?_
  rw [HMN.out]
  rintro e w2 ⟨rfl, hb2⟩
  go_wp2_with fail
  have HB2 : Hid (Below w.heap.size w w2) := by show Below _ _ _; exact (by repeat' (first | with_reducible exact Below.refl _ _ | with_reducible assumption | with_reducible apply Below.drew | with_reducible apply below_drewN | with_reducible apply Below.alloc | with_reducible apply Below.setCell | (with_reducible refine Below.trans ?_ (Below.mono (by assumption) ?_)) | (simp; done) | (simp; omega) | omega | with_reducible apply le_size_alloc | with_reducible apply le_size_drewN | with_reducible apply le_size_drew | with_reducible apply le_size_setCell | with_reducible refine Nat.le_trans ?_ (Below.size (by assumption))))
  have zz := HB2.out.size
  clear hb1 hb2
  go_loopw [8] (fun i wr => ∃ (k : Nat) (s f g : Int), i = .int .i64 k ∧ Hid (InA (s, f, g)) ∧ Hid (rkA (s, f, g) + k ≤ 4) ∧ Hid (Blk wr w2.heap.size 23 #[.int .i64 s, .int .i64 f, .int .i64 g]) ∧ Hid (Below w.heap.size w wr)) (fun i _ => 12 - (intOf i).toNat)
  case atStart =>
    refine ⟨0, 1, -1, g0, rfl, ?_, ?_, ?_, ?_⟩
    · exact .inl ⟨rfl, rfl, HG0.out⟩
    · show _ ≤ _; simp [rkA]; split <;> omega
    · exact Blk.new_ rfl rfl
    · exact HB2.out.alloc (by omega) _
  case round =>
    obtain ⟨k, s, f, g, rfl, HI, HR, HK, HB⟩ := hrel
    have hk4 : k ≤ 4 := by have := HR.out; omega
    have hk12 : (k : Int) < 12 := by omega
    have hR := roundA HI.out
    obtain ⟨l, hll⟩ : ∃ l, (shtR (s, f, g)).1 = l := ⟨_, rfl⟩
    have HSH : Hid (shtR (s, f, g) = (l, 0)) := Prod.ext hll hR.sho
    have HNE : Hid (neeR (s, f, g) = ((l.length : Int), 0)) := by show _ = _; rw [hR.nee, hll]
    have hlen : l.length ≤ 3 := by rw [← hll]; exact hR.len
    have HCH := Lib.hid hR.chk
    have HSQ := Lib.hid hR.seq
    have HLA := Lib.hid hR.last
    have HPK := Lib.hid (pickA HI.out (atS nums k))
    rw [hll] at HSQ HLA HPK
    clear hR hll
    have kl := HK.out.lt
    have zr := HB.out.size
    have q0 : wr.cell? ⟨w2.heap.size, 0, none⟩ = some (.int .i64 s) := (HK.out.cell_ 0).trans (by simp)
    have q1 : wr.cell? ⟨w2.heap.size, 1, none⟩ = some (.int .i64 f) := (HK.out.cell_ 1).trans (by simp)
    have q2 : wr.cell? ⟨w2.heap.size, 2, none⟩ = some (.int .i64 g) := (HK.out.cell_ 2).trans (by simp)
    go_wp2_with fail
    refine (Shortest_any s f g _ (HAL.out.ext HB.out)).mono ?_
    unfold LsPost
    rw [HSH.out]
    rintro e x1 ⟨A1, c1, rfl, hi1, hx1⟩
    have K1 : Hid (Blk x1 w2.heap.size 23 #[.int .i64 s, .int .i64 f, .int .i64 g]) := HK.out.below_ hx1 HK.out.lt
    have B1 : Hid (Below wr.heap.size wr x1) := hx1
    have HI1 := Lib.hid hi1
    clear q0 q1 q2 hx1 hi1
    have q0 : x1.cell? ⟨w2.heap.size, 0, none⟩ = some (.int .i64 s) := (K1.out.cell_ 0).trans (by simp)
    have q1 : x1.cell? ⟨w2.heap.size, 1, none⟩ = some (.int .i64 f) := (K1.out.cell_ 1).trans (by simp)
    have q2 : x1.cell? ⟨w2.heap.size, 2, none⟩ = some (.int .i64 g) := (K1.out.cell_ 2).trans (by simp)
    go_wp2_with fail
    refine (Needs_any s f g _).mono ?_
    rw [HNE.out]
    rintro e x2 ⟨rfl, hx2⟩
    have K2 : Hid (Blk x2 w2.heap.size 23 #[.int .i64 s, .int .i64 f, .int .i64 g]) := K1.out.below_ hx2 K1.out.lt
    have B2 : Hid (Below wr.heap.size wr x2) := B1.out.trans (hx2.mono B1.out.size)
    have HI2 : Hid (IW x2 A1 c1 l) := HI1.out.ext hx2
    clear q0 q1 q2 hx2 K1 B1 HI1
    have q0 : x2.cell? ⟨w2.heap.size, 0, none⟩ = some (.int .i64 s) := (K2.out.cell_ 0).trans (by simp)
    have q1 : x2.cell? ⟨w2.heap.size, 1, none⟩ = some (.int .i64 f) := (K2.out.cell_ 1).trans (by simp)
    have q2 : x2.cell? ⟨w2.heap.size, 2, none⟩ = some (.int .i64 g) := (K2.out.cell_ 2).trans (by simp)
    have k2l := K2.out.lt
    have z2 := B2.out.size
    go_wp2_with fail
    obtain ⟨wo, rfl⟩ : ∃ wo : World, wo = wr := ⟨_, rfl⟩
    go_loopw [14] (fun i wi => ∃ (j : Nat) (s' f' g' : Int), j ≤ l.length ∧ i = .int .i64 j ∧ Hid (seqA (s, f, g) j = (s', f', g')) ∧ Hid (Blk wi x2.heap.size 23 #[.int .i64 s', .int .i64 f', .int .i64 g']) ∧ Hid (Below x2.heap.size x2 wi)) (fun i _ => l.length - (intOf i).toNat)
    case atStart =>
      refine ⟨0, s, f, g, Nat.zero_le _, rfl, ?_, Blk.new_ rfl rfl, ?_⟩
      · show _ = _; rfl
      · exact (Below.refl _ _).alloc (Nat.le_refl _) _
    case round =>
      obtain ⟨wi, rfl⟩ : ∃ wi : World, wi = wr := ⟨_, rfl⟩
      obtain ⟨j, s', f', g', hj, rfl, HQ, HK', HB'⟩ := hrel
      clear q0 q1 q2
      by_cases hlt : j < l.length
      · obtain ⟨bL, oL, x, rfl, hbl, hx, hcx⟩ := (HI2.out.1.ext HB'.out).at_ hlt
        obtain ⟨fr, mp, hst, hne⟩ := HSQ.out j x hx
        obtain ⟨⟨s2, f2, g2⟩, hs2⟩ : ∃ r, seqA (s, f, g) (j + 1) = r := ⟨_, rfl⟩
        rw [HQ.out, hs2] at hst
        rw [hs2] at hne
        have HNX := Lib.hid hne; have HQ2 := Lib.hid hs2
        have i1 : (j : Int) < l.length := by omega
        have zi := HB'.out.size
        have ki := HK'.out.lt
        have hbl2 : bL < wi.heap.size := hbl
        have HALI : Hid (AL wi) := (HAL.out.ext HB.out).ext (B2.out.trans (HB'.out.mono B2.out.size))
        clear hx hne hs2
        by_cases h1 : x = 1
        · rw [if_pos h1] at hst
          have HST := Lib.hid hst
          have he : (x == 1) = true := by simpa using h1
          clear h1 hst
          go_wp2_with fail
          refine wp_region_chain2 [1, 0, 0, 0, 1, 0, 2, 0, 0, 0, 0, 0, 2, 3, 0, 0, 0] [[], [], [], [], [], [], [], [6], [7], [7], [7], [7], [], [], [9], [10], [11]] [.kn ?fan0, .is ?fan1, .is ?fan2, .is ?fan3, .kn ?fan4, .is ?fan5, .has (StpF ((s2, f2, g2), fr, mp, 0)), .fn [6] fst_, .fn [7] (fun l => tupAt (fst_ l) 0), .fn [7] (fun l => tupAt (fst_ l) 1), .fn [7] (fun l => tupAt (fst_ l) 2), .fn [7] (fun l => tupAt (fst_ l) 3), .has (VarF 23 [.int .i64 0, .int .i64 0, .int .i64 0]), .late, .fn [9] fst_, .fn [10] fst_, .fn [11] fst_] (by rfl) (by rfl) (by kernel_rfl) (by kernel_rfl) (by kernel_rfl) (by kernel_rfl) (by kernel_rfl) (by kernel_rfl) (lts_kn (lts_is (lts_is (lts_is (lts_kn (lts_is (lts_has (StpF.lasts ((s2, f2, g2), fr, mp, 0)) (lts_fn (lts_fn (lts_fn (lts_fn (lts_fn (lts_has (VarF.lasts 23 [.int .i64 0, .int .i64 0, .int .i64 0]) (lts_late (lts_fn (lts_fn (lts_fn lts_nil))))))))))))))))) (fun W0 hb0 hz0 => ?_)
          rotate_left 6
          rw [show lateIdx [1, 0, 0, 0, 1, 0, 2, 0, 0, 0, 0, 0, 2, 3, 0, 0, 0] = [13] from by rfl]
          have HALW : Hid (AL W0) := HALI.out.ext hb0
          have kW := HK'.out.below_ hb0 HK'.out.lt
          have p0 : W0.cell? ⟨x2.heap.size, 0, none⟩ = some (.int .i64 s') := (kW.cell_ 0).trans (by simp)
          have p1 : W0.cell? ⟨x2.heap.size, 1, none⟩ = some (.int .i64 f') := (kW.cell_ 1).trans (by simp)
          have p2 : W0.cell? ⟨x2.heap.size, 2, none⟩ = some (.int .i64 g') := (kW.cell_ 2).trans (by simp)
          have p3 := cell_keep hb0 hcx hbl2
          have zW := kW.lt
          have zL : bL < W0.heap.size := Nat.lt_of_lt_of_le hbl2 hb0.size
          clear kW
          refine chn_kn (stp_take (by rfl) ?yan0) ?ran0
          case yan0 =>
            intro w hbw hd
            have r0 := cell_keep hbw p0 zW
            have r1 := cell_keep hbw p1 zW
            have r2 := cell_keep hbw p2 zW
            clear hd
            go_simp
            first | done | with_reducible rfl
          (try simp only [Act.put, List.setIfInBounds_toArray, List.set_cons_zero, List.set_cons_succ, List.nil_append, List.cons_append, Nat.reduceAdd])
          refine chn_is (stp_pure (by rfl) ?yan1) ?ran1
          case yan1 =>
            intro w
            go_simp
            first | done | with_reducible rfl
          (try simp only [Act.put, List.setIfInBounds_toArray, List.set_cons_zero, List.set_cons_succ, List.nil_append, List.cons_append, Nat.reduceAdd])
          refine chn_is (stp_pure (by rfl) ?yan2) ?ran2
          case yan2 =>
            intro w
            go_simp
            first | done | with_reducible rfl
          (try simp only [Act.put, List.setIfInBounds_toArray, List.set_cons_zero, List.set_cons_succ, List.nil_append, List.cons_append, Nat.reduceAdd])
          refine chn_is (stp_pure (by rfl) ?yan3) ?ran3
          case yan3 =>
            intro w
            go_simp
            first | done | with_reducible rfl
          (try simp only [Act.put, List.setIfInBounds_toArray, List.set_cons_zero, List.set_cons_succ, List.nil_append, List.cons_append, Nat.reduceAdd])
          refine chn_kn (stp_take (by rfl) ?yan4) ?ran4
          case yan4 =>
            intro w hbw hd
            have r0 := cell_keep hbw p3 zL
            clear hd
            go_simp
            first | done | with_reducible rfl
          (try simp only [Act.put, List.setIfInBounds_toArray, List.set_cons_zero, List.set_cons_succ, List.nil_append, List.cons_append, Nat.reduceAdd])
          refine chn_is (stp_pure (by rfl) ?yan5) ?ran5
          case yan5 =>
            intro w
            go_simp
            first | done | with_reducible rfl
          (try simp only [Act.put, List.setIfInBounds_toArray, List.set_cons_zero, List.set_cons_succ, List.nil_append, List.cons_append, Nat.reduceAdd])
          refine chn_has ?san6 (fun van6 => ?ran6)
          case san6 =>
            intro w hbw hd K Q' hK
            clear hd
            go_simp
            refine (Step_any s' f' g' x 7 _ (HALW.out.ext hbw)).mono ?_
            unfold StpPost
            rw [HST.out]
            rintro e y ⟨A3, c3, rfl, hi3, hy⟩
            go_wp2_with fail
            refine hK.out (.tuple #[.agg #[.int .i64 s2, .int .i64 f2, .int .i64 g2], .slice A3 fr.length c3, .int .i64 mp, .int .i64 0]) _ _ ?_ ?_ ?_
            · (simp only [Act.put, List.setIfInBounds_toArray, List.set_cons_zero, List.set_cons_succ, List.nil_append, List.cons_append, Nat.reduceAdd])
            · exact (by repeat' (first | with_reducible exact Below.refl _ _ | with_reducible assumption | with_reducible apply Below.drew | with_reducible apply below_drewN | with_reducible apply Below.alloc | with_reducible apply Below.setCell | (with_reducible refine Below.trans ?_ (Below.mono (by assumption) ?_)) | (simp; done) | (simp; omega) | omega | with_reducible apply le_size_alloc | with_reducible apply le_size_drewN | with_reducible apply le_size_drew | with_reducible apply le_size_setCell | with_reducible refine Nat.le_trans ?_ (Below.size (by assumption))))
            · exact ⟨A3, c3, rfl, hi3⟩
          (try simp only [Act.put, List.setIfInBounds_toArray, List.set_cons_zero, List.set_cons_succ, List.nil_append, List.cons_append, Nat.reduceAdd])
          refine chn_fn (van6) (by rfl) (stp_pureK (by rfl) ?yan7) ?ran7
          case yan7 =>
            intro w0 hd w
            clear hd
            go_simp
            first | done | rfl
          (try simp only [Act.put, List.setIfInBounds_toArray, List.set_cons_zero, List.set_cons_succ, List.nil_append, List.cons_append, Nat.reduceAdd])
          refine chn_fn (tupAt (van6) 0) (by rfl) (stp_pureK (by rfl) ?yan8) ?ran8
          case yan8 =>
            intro w0 hd w
            obtain ⟨_, _, A3, c3, rfl, _⟩ : ∃ lo hi, StpF ((s2, f2, g2), fr, mp, 0) van6 lo hi w0 := hd 6 _ _ (by kernel_rfl) rfl rfl
            clear hd
            go_simp
            first | done | rfl
          (try simp only [Act.put, List.setIfInBounds_toArray, List.set_cons_zero, List.set_cons_succ, List.nil_append, List.cons_append, Nat.reduceAdd])
          refine chn_fn (tupAt (van6) 1) (by rfl) (stp_pureK (by rfl) ?yan9) ?ran9
          case yan9 =>
            intro w0 hd w
            obtain ⟨_, _, A3, c3, rfl, _⟩ : ∃ lo hi, StpF ((s2, f2, g2), fr, mp, 0) van6 lo hi w0 := hd 6 _ _ (by kernel_rfl) rfl rfl
            clear hd
            go_simp
            first | done | rfl
          (try simp only [Act.put, List.setIfInBounds_toArray, List.set_cons_zero, List.set_cons_succ, List.nil_append, List.cons_append, Nat.reduceAdd])
          refine chn_fn (tupAt (van6) 2) (by rfl) (stp_pureK (by rfl) ?yan10) ?ran10
          case yan10 =>
            intro w0 hd w
            obtain ⟨_, _, A3, c3, rfl, _⟩ : ∃ lo hi, StpF ((s2, f2, g2), fr, mp, 0) van6 lo hi w0 := hd 6 _ _ (by kernel_rfl) rfl rfl
            clear hd
            go_simp
            first | done | rfl
          (try simp only [Act.put, List.setIfInBounds_toArray, List.set_cons_zero, List.set_cons_succ, List.nil_append, List.cons_append, Nat.reduceAdd])
          refine chn_fn (tupAt (van6) 3) (by rfl) (stp_pureK (by rfl) ?yan11) ?ran11
          case yan11 =>
            intro w0 hd w
            obtain ⟨_, _, A3, c3, rfl, _⟩ : ∃ lo hi, StpF ((s2, f2, g2), fr, mp, 0) van6 lo hi w0 := hd 6 _ _ (by kernel_rfl) rfl rfl
            clear hd
            go_simp
            first | done | rfl
          (try simp only [Act.put, List.setIfInBounds_toArray, List.set_cons_zero, List.set_cons_succ, List.nil_append, List.cons_append, Nat.reduceAdd])
          refine chn_has ?san12 (fun van12 => ?ran12)
          case san12 =>
            intro w hbw hd K Q' hK
            clear hd
            go_simp
            refine hK.out (.pointer (some ⟨w.heap.size, 0, none⟩)) _ _ ?_ ?_ ?_
            · (simp only [Act.put, List.setIfInBounds_toArray, List.set_cons_zero, List.set_cons_succ, List.nil_append, List.cons_append, Nat.reduceAdd])
            · exact (by repeat' (first | with_reducible exact Below.refl _ _ | with_reducible assumption | with_reducible apply Below.drew | with_reducible apply below_drewN | with_reducible apply Below.alloc | with_reducible apply Below.setCell | (with_reducible refine Below.trans ?_ (Below.mono (by assumption) ?_)) | (simp; done) | (simp; omega) | omega | with_reducible apply le_size_alloc | with_reducible apply le_size_drewN | with_reducible apply le_size_drew | with_reducible apply le_size_setCell | with_reducible refine Nat.le_trans ?_ (Below.size (by assumption))))
            · exact ⟨_, rfl, Blk.new_ rfl rfl, Nat.le_refl _, by simp⟩
          (try simp only [Act.put, List.setIfInBounds_toArray, List.set_cons_zero, List.set_cons_succ, List.nil_append, List.cons_append, Nat.reduceAdd])
          refine chn_late ?ran13
          (try simp only [Act.put, List.setIfInBounds_toArray, List.set_cons_zero, List.set_cons_succ, List.nil_append, List.cons_append, Nat.reduceAdd])
          refine chn_fn (tupAt (van6) 1) (by rfl) (stp_pureK (by rfl) ?yan14) ?ran14
          case yan14 =>
            intro w0 hd w
            clear hd
            go_simp
            first | done | rfl
          (try simp only [Act.put, List.setIfInBounds_toArray, List.set_cons_zero, List.set_cons_succ, List.nil_append, List.cons_append, Nat.reduceAdd])
          refine chn_fn (tupAt (van6) 2) (by rfl) (stp_pureK (by rfl) ?yan15) ?ran15
          case yan15 =>
            intro w0 hd w
            clear hd
            go_simp
            first | done | rfl
          (try simp only [Act.put, List.setIfInBounds_toArray, List.set_cons_zero, List.set_cons_succ, List.nil_append, List.cons_append, Nat.reduceAdd])
          refine chn_fn (tupAt (van6) 3) (by rfl) (stp_pureK (by rfl) ?yan16) ?ran16
          case yan16 =>
            intro w0 hd w
            clear hd
            go_simp
            first | done | rfl
          (try simp only [Act.put, List.setIfInBounds_toArray, List.set_cons_zero, List.set_cons_succ, List.nil_append, List.cons_append, Nat.reduceAdd])
          refine chn_end (fun wz lo hi hbz hd hR => ?_)
          obtain ⟨A3, c3, rfl, hi3⟩ : StpF ((s2, f2, g2), fr, mp, 0) van6 (lo 6) (hi 6) wz := hd 6 _ _ rfl rfl
          obtain ⟨bt, rfl, kb, hlo, hhi⟩ : VarF 23 [.int .i64 0, .int .i64 0, .int .i64 0] van12 (lo 12) (hi 12) wz := hd 12 _ _ rfl rfl
          have hWlo := (hR.2 12 _ rfl).1
          clear hd hR
          simp only [tupAt, List.getD_cons_succ, List.getD_cons_zero, Array.getD_eq_getD_getElem?, List.getElem?_toArray, List.getElem?_cons_succ, List.getElem?_cons_zero, Option.getD_some]
          have y0 : wz.cell? ⟨bt, 0, none⟩ = some (.int .i64 0) := (kb.cell_ 0).trans (by simp)
          have y1 : wz.cell? ⟨bt, 1, none⟩ = some (.int .i64 0) := (kb.cell_ 1).trans (by simp)
          have y2 : wz.cell? ⟨bt, 2, none⟩ = some (.int .i64 0) := (kb.cell_ 2).trans (by simp)
          have f0_ := kb.frozen_ 0
          have f1_ := kb.frozen_ 1
          have f2_ := kb.frozen_ 2
          refine late_one (by simp only [List.getElem?_toArray, List.getElem?_cons_succ, List.getElem?_cons_zero]; rfl) (fun K Q' hK => ?_)
          go_simp
          refine hK.out _ ?_
          clear hK K Q'
          obtain ⟨U, hU⟩ : ∃ U, ((wz.setCell ⟨bt, 0, none⟩ (.int .i64 s2)).setCell ⟨bt, 1, none⟩ (.int .i64 f2)).setCell ⟨bt, 2, none⟩ (.int .i64 g2) = U := ⟨_, rfl⟩
          have kU : Blk U bt 23 #[.int .i64 s2, .int .i64 f2, .int .i64 g2] := by rw [← hU]; simpa using ((kb.set_ 0 (.int .i64 s2)).set_ 1 (.int .i64 f2)).set_ 2 (.int .i64 g2)
          have zb := hb0.size
          have bU : Below wi.heap.size wi U := by rw [← hU]; exact ((((hb0.trans (hbz.mono zb))).setCell (p := ⟨bt, 0, none⟩) (show wi.heap.size ≤ bt by omega) _).setCell (p := ⟨bt, 1, none⟩) (show wi.heap.size ≤ bt by omega) _).setCell (p := ⟨bt, 2, none⟩) (show wi.heap.size ≤ bt by omega) _
          rw [hU]
          clear hU y0 y1 y2 f0_ f1_ f2_ kb hi3 hlo hhi hWlo hbz p0 p1 p2 p3 zW zL HALW hb0 hz0 zb
          have k3U := HK'.out.below_ bU HK'.out.lt
          have u0 : U.cell? ⟨bt, 0, none⟩ = some (.int .i64 s2) := (kU.cell_ 0).trans (by simp)
          have u1 : U.cell? ⟨bt, 1, none⟩ = some (.int .i64 f2) := (kU.cell_ 1).trans (by simp)
          have u2 : U.cell? ⟨bt, 2, none⟩ = some (.int .i64 g2) := (kU.cell_ 2).trans (by simp)
          go_wp2_with fail
          refine (Needs_any s2 f2 g2 _).mono ?_
          rw [HNX.out]
          rintro e x3 ⟨rfl, hx3⟩
          clear u0 u1 u2
          have kb3 := kU.below_ hx3 kU.lt
          have K3 := k3U.below_ hx3 k3U.lt
          have HBX : Hid (Below wi.heap.size wi x3) := bU.trans (hx3.mono bU.size)
          have u0 : x3.cell? ⟨bt, 0, none⟩ = some (.int .i64 s2) := (kb3.cell_ 0).trans (by simp)
          have u1 : x3.cell? ⟨bt, 1, none⟩ = some (.int .i64 f2) := (kb3.cell_ 1).trans (by simp)
          have u2 : x3.cell? ⟨bt, 2, none⟩ = some (.int .i64 g2) := (kb3.cell_ 2).trans (by simp)
          have v0 : x3.cell? ⟨x2.heap.size, 0, none⟩ = some (.int .i64 s') := (K3.cell_ 0).trans (by simp)
          have v1 : x3.cell? ⟨x2.heap.size, 1, none⟩ = some (.int .i64 f') := (K3.cell_ 1).trans (by simp)
          have v2 : x3.cell? ⟨x2.heap.size, 2, none⟩ = some (.int .i64 g') := (K3.cell_ 2).trans (by simp)
          have f0_ := K3.frozen_ 0
          have f1_ := K3.frozen_ 1
          have f2_ := K3.frozen_ 2
          have HK3 := Lib.hid K3
          have zl := K3.lt
          clear kU bU k3U hx3 kb3 K3
          go_wp2_with fail
          go_roundw
          case rel =>
            refine ⟨j + 1, s2, f2, g2, by omega, by go_num, HQ2.out, ?_, ?_⟩
            · show Blk _ _ _ _
              simpa using ((HK3.out.set_ 0 (.int .i64 s2)).set_ 1 (.int .i64 f2)).set_ 2 (.int .i64 g2)
            · exact (((HB'.out.trans (HBX.out.mono zi)).setCell (p := ⟨x2.heap.size, 0, none⟩) (Nat.le_refl _) _).setCell (p := ⟨x2.heap.size, 1, none⟩) (Nat.le_refl _) _).setCell (p := ⟨x2.heap.size, 2, none⟩) (Nat.le_refl _) _
          case measure => simp [intOf]; omega
        · rw [if_neg h1] at hst
          have HST := Lib.hid hst
          have he : (x == 1) = false := by simpa using h1
          clear h1 hst
          go_wp2_with fail
          refine wp_region_chain2 [1, 0, 0, 0, 1, 0, 2, 0, 0, 0, 0, 0, 2, 3, 0, 0, 0] [[], [], [], [], [], [], [], [6], [7], [7], [7], [7], [], [], [9], [10], [11]] [.kn ?fbn0, .is ?fbn1, .is ?fbn2, .is ?fbn3, .kn ?fbn4, .is ?fbn5, .has (StpF ((s2, f2, g2), fr, mp, 0)), .fn [6] fst_, .fn [7] (fun l => tupAt (fst_ l) 0), .fn [7] (fun l => tupAt (fst_ l) 1), .fn [7] (fun l => tupAt (fst_ l) 2), .fn [7] (fun l => tupAt (fst_ l) 3), .has (VarF 23 [.int .i64 0, .int .i64 0, .int .i64 0]), .late, .fn [9] fst_, .fn [10] fst_, .fn [11] fst_] (by rfl) (by rfl) (by kernel_rfl) (by kernel_rfl) (by kernel_rfl) (by kernel_rfl) (by kernel_rfl) (by kernel_rfl) (lts_kn (lts_is (lts_is (lts_is (lts_kn (lts_is (lts_has (StpF.lasts ((s2, f2, g2), fr, mp, 0)) (lts_fn (lts_fn (lts_fn (lts_fn (lts_fn (lts_has (VarF.lasts 23 [.int .i64 0, .int .i64 0, .int .i64 0]) (lts_late (lts_fn (lts_fn (lts_fn lts_nil))))))))))))))))) (fun W0 hb0 hz0 => ?_)
          rotate_left 6
          rw [show lateIdx [1, 0, 0, 0, 1, 0, 2, 0, 0, 0, 0, 0, 2, 3, 0, 0, 0] = [13] from by rfl]
          have HALW : Hid (AL W0) := HALI.out.ext hb0
          have kW := HK'.out.below_ hb0 HK'.out.lt
          have p0 : W0.cell? ⟨x2.heap.size, 0, none⟩ = some (.int .i64 s') := (kW.cell_ 0).trans (by simp)
          have p1 : W0.cell? ⟨x2.heap.size, 1, none⟩ = some (.int .i64 f') := (kW.cell_ 1).trans (by simp)
          have p2 : W0.cell? ⟨x2.heap.size, 2, none⟩ = some (.int .i64 g') := (kW.cell_ 2).trans (by simp)
          have p3 := cell_keep hb0 hcx hbl2
          have zW := kW.lt
          have zL : bL < W0.heap.size := Nat.lt_of_lt_of_le hbl2 hb0.size
          clear kW
          refine chn_kn (stp_take (by rfl) ?ybn0) ?rbn0
          case ybn0 =>
            intro w hbw hd
            have r0 := cell_keep hbw p0 zW
            have r1 := cell_keep hbw p1 zW
            have r2 := cell_keep hbw p2 zW
            clear hd
            go_simp
            first | done | with_reducible rfl
          (try simp only [Act.put, List.setIfInBounds_toArray, List.set_cons_zero, List.set_cons_succ, List.nil_append, List.cons_append, Nat.reduceAdd])
          refine chn_is (stp_pure (by rfl) ?ybn1) ?rbn1
          case ybn1 =>
            intro w
            go_simp
            first | done | with_reducible rfl
          (try simp only [Act.put, List.setIfInBounds_toArray, List.set_cons_zero, List.set_cons_succ, List.nil_append, List.cons_append, Nat.reduceAdd])
          refine chn_is (stp_pure (by rfl) ?ybn2) ?rbn2
          case ybn2 =>
            intro w
            go_simp
            first | done | with_reducible rfl
          (try simp only [Act.put, List.setIfInBounds_toArray, List.set_cons_zero, List.set_cons_succ, List.nil_append, List.cons_append, Nat.reduceAdd])
          refine chn_is (stp_pure (by rfl) ?ybn3) ?rbn3
          case ybn3 =>
            intro w
            go_simp
            first | done | with_reducible rfl
          (try simp only [Act.put, List.setIfInBounds_toArray, List.set_cons_zero, List.set_cons_succ, List.nil_append, List.cons_append, Nat.reduceAdd])
          refine chn_kn (stp_take (by rfl) ?ybn4) ?rbn4
          case ybn4 =>
            intro w hbw hd
            have r0 := cell_keep hbw p3 zL
            clear hd
            go_simp
            first | done | with_reducible rfl
          (try simp only [Act.put, List.setIfInBounds_toArray, List.set_cons_zero, List.set_cons_succ, List.nil_append, List.cons_append, Nat.reduceAdd])
          refine chn_is (stp_pure (by rfl) ?ybn5) ?rbn5
          case ybn5 =>
            intro w
            go_simp
            first | done | with_reducible rfl
          (try simp only [Act.put, List.setIfInBounds_toArray, List.set_cons_zero, List.set_cons_succ, List.nil_append, List.cons_append, Nat.reduceAdd])
          refine chn_has ?sbn6 (fun vbn6 => ?rbn6)
          case sbn6 =>
            intro w hbw hd K Q' hK
            clear hd
            go_simp
            refine (Step_any s' f' g' x (-1) _ (HALW.out.ext hbw)).mono ?_
            unfold StpPost
            rw [HST.out]
            rintro e y ⟨A3, c3, rfl, hi3, hy⟩
            go_wp2_with fail
            refine hK.out (.tuple #[.agg #[.int .i64 s2, .int .i64 f2, .int .i64 g2], .slice A3 fr.length c3, .int .i64 mp, .int .i64 0]) _ _ ?_ ?_ ?_
            · (simp only [Act.put, List.setIfInBounds_toArray, List.set_cons_zero, List.set_cons_succ, List.nil_append, List.cons_append, Nat.reduceAdd])
            · exact (by repeat' (first | with_reducible exact Below.refl _ _ | with_reducible assumption | with_reducible apply Below.drew | with_reducible apply below_drewN | with_reducible apply Below.alloc | with_reducible apply Below.setCell | (with_reducible refine Below.trans ?_ (Below.mono (by assumption) ?_)) | (simp; done) | (simp; omega) | omega | with_reducible apply le_size_alloc | with_reducible apply le_size_drewN | with_reducible apply le_size_drew | with_reducible apply le_size_setCell | with_reducible refine Nat.le_trans ?_ (Below.size (by assumption))))
            · exact ⟨A3, c3, rfl, hi3⟩
          (try simp only [Act.put, List.setIfInBounds_toArray, List.set_cons_zero, List.set_cons_succ, List.nil_append, List.cons_append, Nat.reduceAdd])
          refine chn_fn (vbn6) (by rfl) (stp_pureK (by rfl) ?ybn7) ?rbn7
          case ybn7 =>
            intro w0 hd w
            clear hd
            go_simp
            first | done | rfl
          (try simp only [Act.put, List.setIfInBounds_toArray, List.set_cons_zero, List.set_cons_succ, List.nil_append, List.cons_append, Nat.reduceAdd])
          refine chn_fn (tupAt (vbn6) 0) (by rfl) (stp_pureK (by rfl) ?ybn8) ?rbn8
          case ybn8 =>
            intro w0 hd w
            obtain ⟨_, _, A3, c3, rfl, _⟩ : ∃ lo hi, StpF ((s2, f2, g2), fr, mp, 0) vbn6 lo hi w0 := hd 6 _ _ (by kernel_rfl) rfl rfl
            clear hd
            go_simp
            first | done | rfl
          (try simp only [Act.put, List.setIfInBounds_toArray, List.set_cons_zero, List.set_cons_succ, List.nil_append, List.cons_append, Nat.reduceAdd])
          refine chn_fn (tupAt (vbn6) 1) (by rfl) (stp_pureK (by rfl) ?ybn9) ?rbn9
          case ybn9 =>
            intro w0 hd w
            obtain ⟨_, _, A3, c3, rfl, _⟩ : ∃ lo hi, StpF ((s2, f2, g2), fr, mp, 0) vbn6 lo hi w0 := hd 6 _ _ (by kernel_rfl) rfl rfl
            clear hd
            go_simp
            first | done | rfl
          (try simp only [Act.put, List.setIfInBounds_toArray, List.set_cons_zero, List.set_cons_succ, List.nil_append, List.cons_append, Nat.reduceAdd])
          refine chn_fn (tupAt (vbn6) 2) (by rfl) (stp_pureK (by rfl) ?ybn10) ?rbn10
          case ybn10 =>
            intro w0 hd w
            obtain ⟨_, _, A3, c3, rfl, _⟩ : ∃ lo hi, StpF ((s2, f2, g2), fr, mp, 0) vbn6 lo hi w0 := hd 6 _ _ (by kernel_rfl) rfl rfl
            clear hd
            go_simp
            first | done | rfl
          (try simp only [Act.put, List.setIfInBounds_toArray, List.set_cons_zero, List.set_cons_succ, List.nil_append, List.cons_append, Nat.reduceAdd])
          refine chn_fn (tupAt (vbn6) 3) (by rfl) (stp_pureK (by rfl) ?ybn11) ?rbn11
          case ybn11 =>
            intro w0 hd w
            obtain ⟨_, _, A3, c3, rfl, _⟩ : ∃ lo hi, StpF ((s2, f2, g2), fr, mp, 0) vbn6 lo hi w0 := hd 6 _ _ (by kernel_rfl) rfl rfl
            clear hd
            go_simp
            first | done | rfl
          (try simp only [Act.put, List.setIfInBounds_toArray, List.set_cons_zero, List.set_cons_succ, List.nil_append, List.cons_append, Nat.reduceAdd])
          refine chn_has ?sbn12 (fun vbn12 => ?rbn12)
          case sbn12 =>
            intro w hbw hd K Q' hK
            clear hd
            go_simp
            refine hK.out (.pointer (some ⟨w.heap.size, 0, none⟩)) _ _ ?_ ?_ ?_
            · (simp only [Act.put, List.setIfInBounds_toArray, List.set_cons_zero, List.set_cons_succ, List.nil_append, List.cons_append, Nat.reduceAdd])
            · exact (by repeat' (first | with_reducible exact Below.refl _ _ | with_reducible assumption | with_reducible apply Below.drew | with_reducible apply below_drewN | with_reducible apply Below.alloc | with_reducible apply Below.setCell | (with_reducible refine Below.trans ?_ (Below.mono (by assumption) ?_)) | (simp; done) | (simp; omega) | omega | with_reducible apply le_size_alloc | with_reducible apply le_size_drewN | with_reducible apply le_size_drew | with_reducible apply le_size_setCell | with_reducible refine Nat.le_trans ?_ (Below.size (by assumption))))
            · exact ⟨_, rfl, Blk.new_ rfl rfl, Nat.le_refl _, by simp⟩
          (try simp only [Act.put, List.setIfInBounds_toArray, List.set_cons_zero, List.set_cons_succ, List.nil_append, List.cons_append, Nat.reduceAdd])
          refine chn_late ?rbn13
          (try simp only [Act.put, List.setIfInBounds_toArray, List.set_cons_zero, List.set_cons_succ, List.nil_append, List.cons_append, Nat.reduceAdd])
          refine chn_fn (tupAt (vbn6) 1) (by rfl) (stp_pureK (by rfl) ?ybn14) ?rbn14
          case ybn14 =>
            intro w0 hd w
            clear hd
            go_simp
            first | done | rfl
          (try simp only [Act.put, List.setIfInBounds_toArray, List.set_cons_zero, List.set_cons_succ, List.nil_append, List.cons_append, Nat.reduceAdd])
          refine chn_fn (tupAt (vbn6) 2) (by rfl) (stp_pureK (by rfl) ?ybn15) ?rbn15
          case ybn15 =>
            intro w0 hd w
            clear hd
            go_simp
            first | done | rfl
          (try simp only [Act.put, List.setIfInBounds_toArray, List.set_cons_zero, List.set_cons_succ, List.nil_append, List.cons_append, Nat.reduceAdd])
          refine chn_fn (tupAt (vbn6) 3) (by rfl) (stp_pureK (by rfl) ?ybn16) ?rbn16
          case ybn16 =>
            intro w0 hd w
            clear hd
            go_simp
            first | done | rfl
          (try simp only [Act.put, List.setIfInBounds_toArray, List.set_cons_zero, List.set_cons_succ, List.nil_append, List.cons_append, Nat.reduceAdd])
          refine chn_end (fun wz lo hi hbz hd hR => ?_)
          obtain ⟨A3, c3, rfl, hi3⟩ : StpF ((s2, f2, g2), fr, mp, 0) vbn6 (lo 6) (hi 6) wz := hd 6 _ _ rfl rfl
          obtain ⟨bt, rfl, kb, hlo, hhi⟩ : VarF 23 [.int .i64 0, .int .i64 0, .int .i64 0] vbn12 (lo 12) (hi 12) wz := hd 12 _ _ rfl rfl
          have hWlo := (hR.2 12 _ rfl).1
          clear hd hR
          simp only [tupAt, List.getD_cons_succ, List.getD_cons_zero, Array.getD_eq_getD_getElem?, List.getElem?_toArray, List.getElem?_cons_succ, List.getElem?_cons_zero, Option.getD_some]
          have y0 : wz.cell? ⟨bt, 0, none⟩ = some (.int .i64 0) := (kb.cell_ 0).trans (by simp)
          have y1 : wz.cell? ⟨bt, 1, none⟩ = some (.int .i64 0) := (kb.cell_ 1).trans (by simp)
          have y2 : wz.cell? ⟨bt, 2, none⟩ = some (.int .i64 0) := (kb.cell_ 2).trans (by simp)
          have f0_ := kb.frozen_ 0
          have f1_ := kb.frozen_ 1
          have f2_ := kb.frozen_ 2
          refine late_one (by simp only [List.getElem?_toArray, List.getElem?_cons_succ, List.getElem?_cons_zero]; rfl) (fun K Q' hK => ?_)
          go_simp
          refine hK.out _ ?_
          clear hK K Q'
          obtain ⟨U, hU⟩ : ∃ U, ((wz.setCell ⟨bt, 0, none⟩ (.int .i64 s2)).setCell ⟨bt, 1, none⟩ (.int .i64 f2)).setCell ⟨bt, 2, none⟩ (.int .i64 g2) = U := ⟨_, rfl⟩
          have kU : Blk U bt 23 #[.int .i64 s2, .int .i64 f2, .int .i64 g2] := by rw [← hU]; simpa using ((kb.set_ 0 (.int .i64 s2)).set_ 1 (.int .i64 f2)).set_ 2 (.int .i64 g2)
          have zb := hb0.size
          have bU : Below wi.heap.size wi U := by rw [← hU]; exact ((((hb0.trans (hbz.mono zb))).setCell (p := ⟨bt, 0, none⟩) (show wi.heap.size ≤ bt by omega) _).setCell (p := ⟨bt, 1, none⟩) (show wi.heap.size ≤ bt by omega) _).setCell (p := ⟨bt, 2, none⟩) (show wi.heap.size ≤ bt by omega) _
          rw [hU]
          clear hU y0 y1 y2 f0_ f1_ f2_ kb hi3 hlo hhi hWlo hbz p0 p1 p2 p3 zW zL HALW hb0 hz0 zb
          have k3U := HK'.out.below_ bU HK'.out.lt
          have u0 : U.cell? ⟨bt, 0, none⟩ = some (.int .i64 s2) := (kU.cell_ 0).trans (by simp)
          have u1 : U.cell? ⟨bt, 1, none⟩ = some (.int .i64 f2) := (kU.cell_ 1).trans (by simp)
          have u2 : U.cell? ⟨bt, 2, none⟩ = some (.int .i64 g2) := (kU.cell_ 2).trans (by simp)
          go_wp2_with fail
          refine (Needs_any s2 f2 g2 _).mono ?_
          rw [HNX.out]
          rintro e x3 ⟨rfl, hx3⟩
          clear u0 u1 u2
          have kb3 := kU.below_ hx3 kU.lt
          have K3 := k3U.below_ hx3 k3U.lt
          have HBX : Hid (Below wi.heap.size wi x3) := bU.trans (hx3.mono bU.size)
          have u0 : x3.cell? ⟨bt, 0, none⟩ = some (.int .i64 s2) := (kb3.cell_ 0).trans (by simp)
          have u1 : x3.cell? ⟨bt, 1, none⟩ = some (.int .i64 f2) := (kb3.cell_ 1).trans (by simp)
          have u2 : x3.cell? ⟨bt, 2, none⟩ = some (.int .i64 g2) := (kb3.cell_ 2).trans (by simp)
          have v0 : x3.cell? ⟨x2.heap.size, 0, none⟩ = some (.int .i64 s') := (K3.cell_ 0).trans (by simp)
          have v1 : x3.cell? ⟨x2.heap.size, 1, none⟩ = some (.int .i64 f') := (K3.cell_ 1).trans (by simp)
          have v2 : x3.cell? ⟨x2.heap.size, 2, none⟩ = some (.int .i64 g') := (K3.cell_ 2).trans (by simp)
          have f0_ := K3.frozen_ 0
          have f1_ := K3.frozen_ 1
          have f2_ := K3.frozen_ 2
          have HK3 := Lib.hid K3
          have zl := K3.lt
          clear kU bU k3U hx3 kb3 K3
          go_wp2_with fail
          go_roundw
          case rel =>
            refine ⟨j + 1, s2, f2, g2, by omega, by go_num, HQ2.out, ?_, ?_⟩
            · show Blk _ _ _ _
              simpa using ((HK3.out.set_ 0 (.int .i64 s2)).set_ 1 (.int .i64 f2)).set_ 2 (.int .i64 g2)
            · exact (((HB'.out.trans (HBX.out.mono zi)).setCell (p := ⟨x2.heap.size, 0, none⟩) (Nat.le_refl _) _).setCell (p := ⟨x2.heap.size, 1, none⟩) (Nat.le_refl _) _).setCell (p := ⟨x2.heap.size, 2, none⟩) (Nat.le_refl _) _
          case measure => simp [intOf]; omega
      · obtain rfl : j = l.length := by omega
        obtain rfl : s' = 5 := by have := HLA.out; rw [HQ.out] at this; exact this
        have ki := HK'.out.lt
        have q0 : wi.cell? ⟨x2.heap.size, 0, none⟩ = some (.int .i64 5) := (HK'.out.cell_ 0).trans (by simp)
        have KR : Hid (Blk wi w2.heap.size 23 #[.int .i64 s, .int .i64 f, .int .i64 g]) := K2.out.below_ HB'.out k2l
        have HBR : Hid (Below wo.heap.size wo wi) := B2.out.trans (HB'.out.mono B2.out.size)
        have HALI : Hid (AL wi) := (HAL.out.ext HB.out).ext HBR.out
        have HSI : Hid (Sl wi (.int .i64) A nums) := (HS.out.ext HB.out).ext HBR.out
        have kr := KR.out.lt
        clear K2 B2 HI2 HQ HK' HSQ HLA
        rcases HPK.out with ⟨hp, hs5⟩ | ⟨ev, fr, ⟨t0, t1, t2⟩, fl, mp, m, hp, hst, hne, hm, hin, hrk⟩
        · obtain rfl : s = 5 := hs5
          have HP := Lib.hid hp
          clear hp
          go_wp2_with fail
          refine wp_region_chain2 [1, 0, 0, 1, 1, 0, 0, 0, 0, 0, 0, 0] [[], [], [], [], [], [], [], [], [], [], [], []] [.kn ?fcn0, .is ?fcn1, .is ?fcn2, .kn (.int .i64 (atS nums k)), .kn (.tuple #[.int .i64 0, .int .i64 0, .bool false]), .is ?fcn5, .is ?fcn6, .is ?fcn7, .is ?fcn8, .is ?fcn9, .is ?fcn10, .is ?fcn11] (by rfl) (by rfl) (by kernel_rfl) (by kernel_rfl) (by kernel_rfl) (by kernel_rfl) (by kernel_rfl) (by kernel_rfl) (lts_kn (lts_is (lts_is (lts_kn (lts_kn (lts_is (lts_is (lts_is (lts_is (lts_is (lts_is (lts_is lts_nil)))))))))))) (fun W0 hb0 hz0 => ?_)
          rotate_left 10
          rw [show lateIdx [1, 0, 0, 1, 1, 0, 0, 0, 0, 0, 0, 0] = [] from by rfl]
          have HALW : Hid (AL W0) := HALI.out.ext hb0
          have HSW : Hid (Sl W0 (.int .i64) A nums) := HSI.out.ext hb0
          have kW0 := KR.out.below_ hb0 kr
          have p0 : W0.cell? ⟨w2.heap.size, 0, none⟩ = some (.int .i64 5) := (kW0.cell_ 0).trans (by simp)
          have p1 : W0.cell? ⟨w2.heap.size, 1, none⟩ = some (.int .i64 f) := (kW0.cell_ 1).trans (by simp)
          have p2 : W0.cell? ⟨w2.heap.size, 2, none⟩ = some (.int .i64 g) := (kW0.cell_ 2).trans (by simp)
          have zW := kW0.lt
          refine chn_kn (stp_take (by rfl) ?ycn0) ?rcn0
          case ycn0 =>
            intro w hbw hd
            have r0 := cell_keep hbw p0 zW
            have r1 := cell_keep hbw p1 zW
            have r2 := cell_keep hbw p2 zW
            clear hd
            go_simp
            first | done | with_reducible rfl
          (try simp only [Act.put, List.setIfInBounds_toArray, List.set_cons_zero, List.set_cons_succ, List.nil_append, List.cons_append, Nat.reduceAdd])
          refine chn_is (stp_pure (by rfl) ?ycn1) ?rcn1
          case ycn1 =>
            intro w
            go_simp
            first | done | with_reducible rfl
          (try simp only [Act.put, List.setIfInBounds_toArray, List.set_cons_zero, List.set_cons_succ, List.nil_append, List.cons_append, Nat.reduceAdd])
          refine chn_is (stp_pure (by rfl) ?ycn2) ?rcn2
          case ycn2 =>
            intro w
            go_simp
            first | done | with_reducible rfl
          (try simp only [Act.put, List.setIfInBounds_toArray, List.set_cons_zero, List.set_cons_succ, List.nil_append, List.cons_append, Nat.reduceAdd])
          refine chn_kn ?scn3 ?rcn3
          case scn3 =>
            intro w hbw hd K Q' hK
            clear hd
            go_simp
            refine (At_any A c nums k _ (HSW.out.ext hbw) (by omega)).mono ?_
            rintro e y ⟨rfl, rfl⟩
            go_wp2_with fail
            refine hK.out (.int .i64 (atS nums k)) _ _ ?_ ?_ rfl
            · (simp only [Act.put, List.setIfInBounds_toArray, List.set_cons_zero, List.set_cons_succ, List.nil_append, List.cons_append, Nat.reduceAdd])
            · exact (by repeat' (first | with_reducible exact Below.refl _ _ | with_reducible assumption | with_reducible apply Below.drew | with_reducible apply below_drewN | with_reducible apply Below.alloc | with_reducible apply Below.setCell | (with_reducible refine Below.trans ?_ (Below.mono (by assumption) ?_)) | (simp; done) | (simp; omega) | omega | with_reducible apply le_size_alloc | with_reducible apply le_size_drewN | with_reducible apply le_size_drew | with_reducible apply le_size_setCell | with_reducible refine Nat.le_trans ?_ (Below.size (by assumption))))
          (try simp only [Act.put, List.setIfInBounds_toArray, List.set_cons_zero, List.set_cons_succ, List.nil_append, List.cons_append, Nat.reduceAdd])
          refine chn_kn ?scn4 ?rcn4
          case scn4 =>
            intro w hbw hd K Q' hK
            clear hd
            go_simp
            refine (pick_no 5 f g (atS nums k) _ (HALW.out.ext hbw) HCH.out).mono ?_
            unfold PckPost
            rw [HP.out]
            rintro e y ⟨rfl, hy⟩
            go_wp2_with fail
            refine hK.out (.tuple #[.int .i64 0, .int .i64 0, .bool false]) _ _ ?_ ?_ rfl
            · (simp only [Act.put, List.setIfInBounds_toArray, List.set_cons_zero, List.set_cons_succ, List.nil_append, List.cons_append, Nat.reduceAdd])
            · exact (by repeat' (first | with_reducible exact Below.refl _ _ | with_reducible assumption | with_reducible apply Below.drew | with_reducible apply below_drewN | with_reducible apply Below.alloc | with_reducible apply Below.setCell | (with_reducible refine Below.trans ?_ (Below.mono (by assumption) ?_)) | (simp; done) | (simp; omega) | omega | with_reducible apply le_size_alloc | with_reducible apply le_size_drewN | with_reducible apply le_size_drew | with_reducible apply le_size_setCell | with_reducible refine Nat.le_trans ?_ (Below.size (by assumption))))
          (try simp only [Act.put, List.setIfInBounds_toArray, List.set_cons_zero, List.set_cons_succ, List.nil_append, List.cons_append, Nat.reduceAdd])
          refine chn_is (stp_pure (by rfl) ?ycn5) ?rcn5
          case ycn5 =>
            intro w
            go_simp
            first | done | with_reducible rfl
          (try simp only [Act.put, List.setIfInBounds_toArray, List.set_cons_zero, List.set_cons_succ, List.nil_append, List.cons_append, Nat.reduceAdd])
          refine chn_is (stp_pure (by rfl) ?ycn6) ?rcn6
          case ycn6 =>
            intro w
            go_simp
            first | done | with_reducible rfl
          (try simp only [Act.put, List.setIfInBounds_toArray, List.set_cons_zero, List.set_cons_succ, List.nil_append, List.cons_append, Nat.reduceAdd])
          refine chn_is (stp_pure (by rfl) ?ycn7) ?rcn7
          case ycn7 =>
            intro w
            go_simp
            first | done | with_reducible rfl
          (try simp only [Act.put, List.setIfInBounds_toArray, List.set_cons_zero, List.set_cons_succ, List.nil_append, List.cons_append, Nat.reduceAdd])
          refine chn_is (stp_pure (by rfl) ?ycn8) ?rcn8
          case ycn8 =>
            intro w
            go_simp
            first | done | with_reducible rfl
          (try simp only [Act.put, List.setIfInBounds_toArray, List.set_cons_zero, List.set_cons_succ, List.nil_append, List.cons_append, Nat.reduceAdd])
          refine chn_is (stp_pure (by rfl) ?ycn9) ?rcn9
          case ycn9 =>
            intro w
            go_simp
            first | done | with_reducible rfl
          (try simp only [Act.put, List.setIfInBounds_toArray, List.set_cons_zero, List.set_cons_succ, List.nil_append, List.cons_append, Nat.reduceAdd])
          refine chn_is (stp_pure (by rfl) ?ycn10) ?rcn10
          case ycn10 =>
            intro w
            go_simp
            first | done | with_reducible rfl
          (try simp only [Act.put, List.setIfInBounds_toArray, List.set_cons_zero, List.set_cons_succ, List.nil_append, List.cons_append, Nat.reduceAdd])
          refine chn_is (stp_pure (by rfl) ?ycn11) ?rcn11
          case ycn11 =>
            intro w
            go_simp
            first | done | with_reducible rfl
          (try simp only [Act.put, List.setIfInBounds_toArray, List.set_cons_zero, List.set_cons_succ, List.nil_append, List.cons_append, Nat.reduceAdd])
          refine chn_end (fun wz lo hi hbz hd hR => ?_)
          have kW := kW0.below_ hbz zW
          have bx4 := hb0.trans (hbz.mono hb0.size)
          clear hd hR kW0 p0 p1 p2 HALW HSW zW hb0 hbz hz0 q0
          refine late_none ?_
          obtain ⟨x4, rfl⟩ : ∃ x4 : World, x4 = wz := ⟨_, rfl⟩
          have q0 : x4.cell? ⟨w2.heap.size, 0, none⟩ = some (.int .i64 5) := (kW.cell_ 0).trans (by simp)
          clear kW
          go_wp2_with fail
          go_ret
          exact ⟨rfl, HB.out.trans ((HBR.out.trans (bx4.mono HBR.out.size)).mono zr)⟩
        · have HP := Lib.hid hp; have HST := Lib.hid hst; have HNX := Lib.hid hne; have HIN := Lib.hid hin; have HRK := Lib.hid hrk; have HM := Lib.hid hm
          clear hp hst hne hin hrk hm
          go_wp2_with fail
          refine wp_region_chain2 [1, 0, 0, 1, 1, 0, 0, 0, 0, 0, 0, 0] [[], [], [], [], [], [], [], [], [], [], [], []] [.kn ?fdn0, .is ?fdn1, .is ?fdn2, .kn (.int .i64 (atS nums k)), .kn (.tuple #[.int .i64 ev, .int .i64 fr, .bool true]), .is ?fdn5, .is ?fdn6, .is ?fdn7, .is ?fdn8, .is ?fdn9, .is ?fdn10, .is ?fdn11] (by rfl) (by rfl) (by kernel_rfl) (by kernel_rfl) (by kernel_rfl) (by kernel_rfl) (by kernel_rfl) (by kernel_rfl) (lts_kn (lts_is (lts_is (lts_kn (lts_kn (lts_is (lts_is (lts_is (lts_is (lts_is (lts_is (lts_is lts_nil)))))))))))) (fun W0 hb0 hz0 => ?_)
          rotate_left 10
          rw [show lateIdx [1, 0, 0, 1, 1, 0, 0, 0, 0, 0, 0, 0] = [] from by rfl]
          have HALW : Hid (AL W0) := HALI.out.ext hb0
          have HSW : Hid (Sl W0 (.int .i64) A nums) := HSI.out.ext hb0
          have kW0 := KR.out.below_ hb0 kr
          have p0 : W0.cell? ⟨w2.heap.size, 0, none⟩ = some (.int .i64 s) := (kW0.cell_ 0).trans (by simp)
          have p1 : W0.cell? ⟨w2.heap.size, 1, none⟩ = some (.int .i64 f) := (kW0.cell_ 1).trans (by simp)
          have p2 : W0.cell? ⟨w2.heap.size, 2, none⟩ = some (.int .i64 g) := (kW0.cell_ 2).trans (by simp)
          have zW := kW0.lt
          refine chn_kn (stp_take (by rfl) ?ydn0) ?rdn0
          case ydn0 =>
            intro w hbw hd
            have r0 := cell_keep hbw p0 zW
            have r1 := cell_keep hbw p1 zW
            have r2 := cell_keep hbw p2 zW
            clear hd
            go_simp
            first | done | with_reducible rfl
          (try simp only [Act.put, List.setIfInBounds_toArray, List.set_cons_zero, List.set_cons_succ, List.nil_append, List.cons_append, Nat.reduceAdd])
          refine chn_is (stp_pure (by rfl) ?ydn1) ?rdn1
          case ydn1 =>
            intro w
            go_simp
            first | done | with_reducible rfl
          (try simp only [Act.put, List.setIfInBounds_toArray, List.set_cons_zero, List.set_cons_succ, List.nil_append, List.cons_append, Nat.reduceAdd])
          refine chn_is (stp_pure (by rfl) ?ydn2) ?rdn2
          case ydn2 =>
            intro w
            go_simp
            first | done | with_reducible rfl
          (try simp only [Act.put, List.setIfInBounds_toArray, List.set_cons_zero, List.set_cons_succ, List.nil_append, List.cons_append, Nat.reduceAdd])
          refine chn_kn ?sdn3 ?rdn3
          case sdn3 =>
            intro w hbw hd K Q' hK
            clear hd
            go_simp
            refine (At_any A c nums k _ (HSW.out.ext hbw) (by omega)).mono ?_
            rintro e y ⟨rfl, rfl⟩
            go_wp2_with fail
            refine hK.out (.int .i64 (atS nums k)) _ _ ?_ ?_ rfl
            · (simp only [Act.put, List.setIfInBounds_toArray, List.set_cons_zero, List.set_cons_succ, List.nil_append, List.cons_append, Nat.reduceAdd])
            · exact (by repeat' (first | with_reducible exact Below.refl _ _ | with_reducible assumption | with_reducible apply Below.drew | with_reducible apply below_drewN | with_reducible apply Below.alloc | with_reducible apply Below.setCell | (with_reducible refine Below.trans ?_ (Below.mono (by assumption) ?_)) | (simp; done) | (simp; omega) | omega | with_reducible apply le_size_alloc | with_reducible apply le_size_drewN | with_reducible apply le_size_drew | with_reducible apply le_size_setCell | with_reducible refine Nat.le_trans ?_ (Below.size (by assumption))))
          (try simp only [Act.put, List.setIfInBounds_toArray, List.set_cons_zero, List.set_cons_succ, List.nil_append, List.cons_append, Nat.reduceAdd])
          refine chn_kn ?sdn4 ?rdn4
          case sdn4 =>
            intro w hbw hd K Q' hK
            clear hd
            go_simp
            refine (pick_no s f g (atS nums k) _ (HALW.out.ext hbw) HCH.out).mono ?_
            unfold PckPost
            rw [HP.out]
            rintro e y ⟨rfl, hy⟩
            go_wp2_with fail
            refine hK.out (.tuple #[.int .i64 ev, .int .i64 fr, .bool true]) _ _ ?_ ?_ rfl
            · (simp only [Act.put, List.setIfInBounds_toArray, List.set_cons_zero, List.set_cons_succ, List.nil_append, List.cons_append, Nat.reduceAdd])
            · exact (by repeat' (first | with_reducible exact Below.refl _ _ | with_reducible assumption | with_reducible apply Below.drew | with_reducible apply below_drewN | with_reducible apply Below.alloc | with_reducible apply Below.setCell | (with_reducible refine Below.trans ?_ (Below.mono (by assumption) ?_)) | (simp; done) | (simp; omega) | omega | with_reducible apply le_size_alloc | with_reducible apply le_size_drewN | with_reducible apply le_size_drew | with_reducible apply le_size_setCell | with_reducible refine Nat.le_trans ?_ (Below.size (by assumption))))
          (try simp only [Act.put, List.setIfInBounds_toArray, List.set_cons_zero, List.set_cons_succ, List.nil_append, List.cons_append, Nat.reduceAdd])
          refine chn_is (stp_pure (by rfl) ?ydn5) ?rdn5
          case ydn5 =>
            intro w
            go_simp
            first | done | with_reducible rfl
          (try simp only [Act.put, List.setIfInBounds_toArray, List.set_cons_zero, List.set_cons_succ, List.nil_append, List.cons_append, Nat.reduceAdd])
          refine chn_is (stp_pure (by rfl) ?ydn6) ?rdn6
          case ydn6 =>
            intro w
            go_simp
            first | done | with_reducible rfl
          (try simp only [Act.put, List.setIfInBounds_toArray, List.set_cons_zero, List.set_cons_succ, List.nil_append, List.cons_append, Nat.reduceAdd])
          refine chn_is (stp_pure (by rfl) ?ydn7) ?rdn7
          case ydn7 =>
            intro w
            go_simp
            first | done | with_reducible rfl
          (try simp only [Act.put, List.setIfInBounds_toArray, List.set_cons_zero, List.set_cons_succ, List.nil_append, List.cons_append, Nat.reduceAdd])
          refine chn_is (stp_pure (by rfl) ?ydn8) ?rdn8
          case ydn8 =>
            intro w
            go_simp
            first | done | with_reducible rfl
          (try simp only [Act.put, List.setIfInBounds_toArray, List.set_cons_zero, List.set_cons_succ, List.nil_append, List.cons_append, Nat.reduceAdd])
          refine chn_is (stp_pure (by rfl) ?ydn9) ?rdn9
          case ydn9 =>
            intro w
            go_simp
            first | done | with_reducible rfl
          (try simp only [Act.put, List.setIfInBounds_toArray, List.set_cons_zero, List.set_cons_succ, List.nil_append, List.cons_append, Nat.reduceAdd])
          refine chn_is (stp_pure (by rfl) ?ydn10) ?rdn10
          case ydn10 =>
            intro w
            go_simp
            first | done | with_reducible rfl
          (try simp only [Act.put, List.setIfInBounds_toArray, List.set_cons_zero, List.set_cons_succ, List.nil_append, List.cons_append, Nat.reduceAdd])
          refine chn_is (stp_pure (by rfl) ?ydn11) ?rdn11
          case ydn11 =>
            intro w
            go_simp
            first | done | with_reducible rfl
          (try simp only [Act.put, List.setIfInBounds_toArray, List.set_cons_zero, List.set_cons_succ, List.nil_append, List.cons_append, Nat.reduceAdd])
          refine chn_end (fun wz lo hi hbz hd hR => ?_)
          have kW := kW0.below_ hbz zW
          have bx4 := hb0.trans (hbz.mono hb0.size)
          clear hd hR kW0 p0 p1 p2 HALW HSW zW hb0 hbz hz0 q0
          refine late_none ?_
          obtain ⟨x4, rfl⟩ : ∃ x4 : World, x4 = wz := ⟨_, rfl⟩
          have K4 := Lib.hid kW
          have q0 : x4.cell? ⟨w2.heap.size, 0, none⟩ = some (.int .i64 s) := (kW.cell_ 0).trans (by simp)
          have q1 : x4.cell? ⟨w2.heap.size, 1, none⟩ = some (.int .i64 f) := (kW.cell_ 1).trans (by simp)
          have q2 : x4.cell? ⟨w2.heap.size, 2, none⟩ = some (.int .i64 g) := (kW.cell_ 2).trans (by simp)
          have B4 : Hid (Below wo.heap.size wo x4) := HBR.out.trans (bx4.mono HBR.out.size)
          clear kW
          go_wp2_with fail
          refine (Step_any s f g ev fr _ (HALI.out.ext bx4)).mono ?_
          unfold StpPost
          rw [HST.out]
          rintro e x5 ⟨A5, c5, rfl, hi5, hx5⟩
          clear hi5 bx4 q0 q1 q2
          have K5 := Lib.hid (K4.out.below_ hx5 K4.out.lt)
          have B5 := Lib.hid (B4.out.trans (hx5.mono B4.out.size))
          have k5l := K5.out.lt
          clear hx5 K4 B4
          go_wp2_with fail
          refine (Needs_any t0 t1 t2 _).mono ?_
          rw [HNX.out]
          rintro e x6 ⟨rfl, hx6⟩
          have hx6' : Below x5.heap.size x5 x6 := box_below hx6
          have K6 := K5.out.below_ hx6' K5.out.lt
          have B6 := Lib.hid (B5.out.trans (hx6'.mono B5.out.size))
          have kt : Blk x6 x5.heap.size 23 #[.int .i64 t0, .int .i64 t1, .int .i64 t2] := Blk.below_ (Blk.new_ rfl rfl) hx6 (by simp)
          have u0 : x6.cell? ⟨x5.heap.size, 0, none⟩ = some (.int .i64 t0) := (kt.cell_ 0).trans (by simp)
          have u1 : x6.cell? ⟨x5.heap.size, 1, none⟩ = some (.int .i64 t1) := (kt.cell_ 1).trans (by simp)
          have u2 : x6.cell? ⟨x5.heap.size, 2, none⟩ = some (.int .i64 t2) := (kt.cell_ 2).trans (by simp)
          have v0 : x6.cell? ⟨w2.heap.size, 0, none⟩ = some (.int .i64 s) := (K6.cell_ 0).trans (by simp)
          have v1 : x6.cell? ⟨w2.heap.size, 1, none⟩ = some (.int .i64 f) := (K6.cell_ 1).trans (by simp)
          have v2 : x6.cell? ⟨w2.heap.size, 2, none⟩ = some (.int .i64 g) := (K6.cell_ 2).trans (by simp)
          have f0_ := K6.frozen_ 0
          have f1_ := K6.frozen_ 1
          have f2_ := K6.frozen_ 2
          have k6l := K6.lt
          have HK6 := Lib.hid K6
          clear hx6 hx6' K6 K5 B5 kt
          have fin : Hid (∃ (k' : Nat) (s f g : Int), Value.int .i64 ((k : Int) + 1) = .int .i64 k' ∧ Hid (InA (s, f, g)) ∧ Hid (rkA (s, f, g) + k' ≤ 4) ∧ Hid (Blk (((x6.setCell ⟨w2.heap.size, 0, none⟩ (.int .i64 t0)).setCell ⟨w2.heap.size, 1, none⟩ (.int .i64 t1)).setCell ⟨w2.heap.size, 2, none⟩ (.int .i64 t2)) w2.heap.size 23 #[.int .i64 s, .int .i64 f, .int .i64 g]) ∧
              Hid (Below w.heap.size w (((x6.setCell ⟨w2.heap.size, 0, none⟩ (.int .i64 t0)).setCell ⟨w2.heap.size, 1, none⟩ (.int .i64 t1)).setCell ⟨w2.heap.size, 2, none⟩ (.int .i64 t2)))) := by
            refine ⟨k + 1, t0, t1, t2, by go_num, HIN.out, ?_, ?_, ?_⟩
            · show _ ≤ _; have := HRK.out; have := HR.out; omega
            · show Blk _ _ _ _
              simpa using ((HK6.out.set_ 0 (.int .i64 t0)).set_ 1 (.int .i64 t1)).set_ 2 (.int .i64 t2)
            · exact (((HB.out.trans (B6.out.mono zr)).setCell (p := ⟨w2.heap.size, 0, none⟩) zz _).setCell (p := ⟨w2.heap.size, 1, none⟩) zz _).setCell (p := ⟨w2.heap.size, 2, none⟩) zz _
          rcases HM.out with hm | hm
          · have hm2 : m ≤ (l.length : Int) := by omega
            clear hm
            go_wp2_with fail
            go_roundw
            case rel => exact fin.out
            case measure => simp [intOf]; omega
          · subst hm
            by_cases hm3 : m ≤ (l.length : Int)
            all_goals
              go_wp2_with fail
              go_roundw
              case rel => exact fin.out
              case measure => simp [intOf]; omega

set_option maxRecDepth 100000 in
theorem readinArrives_lifted (os : Os) (started : os.Started) (H : Type) (enc : TypeId × Value → H) :
    ReturnsInHanded {} Tryd.checked os 4 .any (fun w args => (Rows.readinArrivesSpec.pre enc Tryd.prog Tryd.f4 [] false w args ∧ laidMetH Tryd.prog laidV w) ∧ sizedMet enc Tryd.prog Tryd.f4 (OpenSpec.ofChange Rows.readinArrivesSpec) false w args) (Rows.readinArrivesSpec.post enc Tryd.prog Tryd.f4 false true false false) := by
  refine returnsInHanded_of_change_and (C := Tryd.checked) (X := fun w _ => laidMetH Tryd.prog laidV w) (fun _ _ _ hh h => h.of_heap hh) own started (by kernel_rfl) Tryd.func4
    (ChangeSpec.witness_shaped (enc := enc) (C := Tryd.checked) (os := os) (X := fun w _ => laidMetH Tryd.prog laidV w) false (World.doorLaid Tryd.prog 400 os) #[.int .i64 0, .slice none 0 0] 8 rfl (World.shaped_of_RefB (by kernel_rfl) (by kernel_rfl)) (by kernel_rfl) (by kernel_rfl) (by kernel_rfl) (door_met os _)) ?_
  intro W base args ds gs before hval0 hW hcnd _ hL _
  have hval : ∀ (j : Nat) t v, Tryd.f4.params[j]? = some t → args[j]? = some v → Value.okWide Tryd.prog W .any base t v := hval0
  have hW' := hW
  obtain ⟨p, q, hA0, hV, rfl, hfz, hnd⟩ := hW
  have hA : DataW.TrodAll enc Tryd.prog W 0 (fun _ => true) true Tryd.f4.params.toList args.toList ds p := hA0
  rw [Tryd.params4] at hA hval
  obtain ⟨v0, vs0, d0, ds0, p0, q0, hargs, rfl, rfl, h0, r0⟩ := trodAll_cons hA
  obtain ⟨v1, vs1, d1, ds1, p1, q1, rfl, rfl, rfl, h1, r1⟩ := trodAll_cons r0
  obtain ⟨rfl, rfl, rfl⟩ := trodAll_nil r1
  obtain rfl : args = #[v0, v1] := by cases args; simp_all
  obtain ⟨rfl, rfl⟩ := trodVars_none hV
  obtain ⟨a0, rfl, rfl, rfl, w0⟩ := open_int Tryd.underlying3 (hval 0 3 v0 rfl rfl) h0
  obtain ⟨A1, k1, a1, rfl, s1, w1, l1⟩ := open_slI Tryd.underlying32 Tryd.underlying3 (by kernel_rfl) (hval 1 32 v1 rfl rfl) h1
  clear hA0 hval0
  refine (readinArrives_walk a0 A1 k1 a1 W w0 s1 w1 l1 (of_laid hL)).mono fun e W' ⟨he, hb⟩ => ⟨_, he, ?_⟩
  exact law_post laidOut (s := Rows.readinArrivesSpec) (B := 4) rfl rfl Tryd.underlying4 (by decide +kernel) hW' rfl hb

theorem readinArrives_holds : Rows.ReadinArrivesSaid :=
  OpenClaim.holds_of_wide 4 Tryd.f4 rfl rfl rfl rfl rfl rfl rfl ⟨rfl, rfl, rfl, rfl, rfl⟩ rfl rfl rfl rfl rfl (by kernel_rfl) Tryd.func4 (by kernel_rfl)
    (of_decide_eq_true (by kernel_rfl)) (by unfold Func.isWrapper; first | (rw [if_pos (by decide +kernel)]; kernel_rfl) | (rw [if_neg (by decide +kernel)]; exact ⟨rfl, rfl⟩))
    (fun os started H enc _ => readinArrives_lifted os started H enc)

theorem readinArrives_card : Rows.ReadinArrivesCardSaid :=
  Claim7.holds_tied_plain_at .later [] [.data] true Rows.readinArrivesCard.stood.harness false
    readinArrives_holds (fun _ h => by cases h) (by kernel_rfl) (fun _ h => by cases h) readinArrives_row_tie rfl ⟨rfl, rfl⟩ (by kernel_rfl) rfl
    (fun f fn hf hfn => by
      obtain rfl : f = 4 := Option.some.inj ((show Tryd.prog.funcNamed "headgate/headgatelaw21.ReadinArrives" = some 4 by kernel_rfl).symm.trans hf) |>.symm
      obtain rfl : fn = Tryd.f4 := (Option.some.inj (Tryd.func4.symm.trans hfn)).symm
      exact ⟨by kernel_rfl, fun j t ht => by
        have hall : (Tryd.f4.params.toList.all fun u => !Tryd.prog.wantsStandIn u) = true := by kernel_rfl
        have hm : t ∈ Tryd.f4.params.toList := by simpa using Array.mem_of_getElem? ht
        exact (show Tryd.prog.wantsStandIn t = false by simpa using List.all_eq_true.1 hall t hm)⟩)
    (by kernel_rfl)

end Go.Proofs.YtngenoblifhnpaaDoor

