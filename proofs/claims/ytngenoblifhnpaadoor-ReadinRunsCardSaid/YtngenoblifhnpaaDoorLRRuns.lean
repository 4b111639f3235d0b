/- ReadinRuns: what events make of an access, how many, which error ends them, whether it is over, and the shortest way. Written by gen_rruns.py. -/
import Derived.Test.YtngenoblifhnpaaDoorLRKnown
import Derived.Test.YtngenoblifhnpaaDoorCloseR
import Derived.Test.YtngenoblifhnpaaDoorRiW
import Derived.Test.YtngenoblifhnpaaDoorFree2
namespace Go.Proofs.YtngenoblifhnpaaDoor
open Go.RowKit Go.Maps
open Go.ChangeShapes Go.WideShapes Go.ChangeAt Go.Joins

theorem eq_chg (w : World) (x y : Int × Int) : (Op.equal 49 (.agg #[.int .i64 x.1, .int .i64 x.2]) (.agg #[.int .i64 y.1, .int .i64 y.2])).run Tryd.prog w = .ok (decide (x = y)) w := by
  have hs : Tryd.prog.stoodInHeld 49 = false := by kernel_rfl
  obtain ⟨a, b⟩ := x
  obtain ⟨d, e⟩ := y
  have h0 := part_int w #[.int .i64 a, .int .i64 b] 0 (.int .i64 a) rfl
  have h1 := part_int w #[.int .i64 a, .int .i64 b] 1 (.int .i64 b) rfl
  have h3 := part_int w #[.int .i64 d, .int .i64 e] 0 (.int .i64 d) rfl
  have h4 := part_int w #[.int .i64 d, .int .i64 e] 1 (.int .i64 e) rfl
  have e1 := eqIn_int w 9998 a d
  have e2 := eqIn_int w 9998 b e
  unfold Op.equal
  show (Op.equalIn (9999 + 1) _ _ _).run _ _ = _
  unfold Op.equalIn
  simp only [Sem.run_bind, run_underlying Tryd.underlying49, Result.andThen_ok]
  simp [hs, h0, h1, h3, h4, e1, e2]
  by_cases h : a = d <;> by_cases h' : b = e <;> simp [h, h']
theorem open_chg {H : Type} {enc : TypeId × Value → H} {W : World} {base : Nat} {v : Value} {d : DataW H} {p : List MemPlace} (hv : Value.okWide Tryd.prog W .any base 45 v) (h : DataW.Trod enc Tryd.prog W 0 (fun _ => true) true 45 v d p) :
    ∃ A c l, v = .slice A l.length c ∧ CR chgE W A c l ∧ l.length ≤ maxLen :=
  open_slR chgE Tryd.underlying49 (by kernel_rfl) rfl (fun j f hf => by
    rcases j with _ | _ | j
    · simp at hf; subst hf; exact ⟨rfl, by kernel_rfl, Tryd.underlying3⟩
    · simp at hf; subst hf; exact ⟨rfl, by kernel_rfl, Tryd.underlying3⟩
    · simp at hf) (fun xs => (xs.getD 0 0, xs.getD 1 0)) (fun xs hx => by
    match xs, (show xs.length = 2 from hx) with
    | [a, b], _ => rfl) hv h
theorem sho_len (r : RI) : (shtR r).1.length ≤ 3 := by
  unfold shtR
  split
  · unfold shoR
    repeat' (first | (simp; done) | split)
  · simp

set_option maxRecDepth 100000 in
set_option maxHeartbeats 16000000 in
theorem readinRuns_walk (s f g : Int) (A : Option Addr) (c : Nat) (l : List (Int × Int)) (w : World) (h0 : (Lit.int .i64 s).wf = true) (h1 : (Lit.int .i64 f).wf = true) (h2 : (Lit.int .i64 g).wf = true) (hs : CR chgE w A c l) (hl : l.length ≤ maxLen) (hal : AL w) :
    Calls Tryd.prog 5 #[.agg #[.int .i64 s, .int .i64 f, .int .i64 g], .slice A l.length c] w fun e w' => e = .returned (.bool true) ∧ Below w.heap.size w w' := by
  clear h0 h1 h2
  have HAL := Lib.hid hal; have HS := Lib.hid hs.1
  unfold maxLen at hl
  clear hal hs
  by_cases hL : l.length ≤ 20
  · obtain ⟨⟨⟨b0, b1, b2⟩, nn, z⟩, hrn⟩ : ∃ R, runR (s, f, g) l = R := ⟨_, rfl⟩
    obtain ⟨⟨ob, oz⟩, hov⟩ : ∃ R, oveR (s, f, g) = R := ⟨_, rfl⟩
    obtain ⟨⟨sl, sz⟩, hsh⟩ : ∃ R, shtR (s, f, g) = R := ⟨_, rfl⟩
    have l1 : sl.length ≤ 3 := by have := sho_len (s, f, g); rw [hsh] at this; exact this
    have HRN := Lib.hid hrn; have HOV := Lib.hid hov; have HSH := Lib.hid hsh
    clear hrn hov hsh
    have hq1 := fun W => eq_ri W (b0, b1, b2) (b0, b1, b2)
    rw [decide_eq_true rfl] at hq1
    simp only at hq1
    have i20 : (l.length : Int) ≤ 20 := by omega
    go_enter Tryd.func5, Tryd.ntmps5
    go_wp2_with (at_builtin; refine wpList_appR chgE rfl (.tmp 23) (.tmp 24) _ rfl rfl _ (w.heap.size + 1) (by first | (simp; done) | (simp; omega)) _ 0 0 [] rfl (.inl ⟨rfl, SR.nil⟩) A c _ l rfl (HS.out.ext (by repeat' (first | with_reducible exact Below.refl _ _ | with_reducible assumption | with_reducible apply Below.drew | with_reducible apply below_drewN | with_reducible apply Below.alloc | with_reducible apply Below.setCell | (with_reducible refine Below.trans ?_ (Below.mono (by assumption) ?_)) | (simp; done) | (simp; omega) | omega | with_reducible apply le_size_alloc | with_reducible apply le_size_drewN | with_reducible apply le_size_drew | with_reducible apply le_size_setCell | refine Nat.le_trans ?_ (Below.size (by assumption))))) (by simp; omega) rfl rfl ?_; rintro A1 c1 w1 hc1 hb1 -; have q0 : w1.cell? ⟨w.heap.size, 0, none⟩ = some (.int .i64 s) := cell_keep hb1 (by simp) (by simp); have q1 : w1.cell? ⟨w.heap.size, 1, none⟩ = some (.int .i64 f) := cell_keep hb1 (by simp) (by simp); have q2 : w1.cell? ⟨w.heap.size, 2, none⟩ = some (.int .i64 g) := cell_keep hb1 (by simp) (by simp))
    have K0 : Hid (Blk w1 w.heap.size 23 #[.int .i64 s, .int .i64 f, .int .i64 g]) := Blk.below_ ((Blk.new_ rfl rfl).alloc_ _) hb1 (by simp)
    have HB1 : Hid (Below w.heap.size w w1) := by show Below _ _ _; exact (((Below.refl _ w).alloc (Nat.le_refl _) _).alloc (by simp) _).trans (hb1.mono (by omega))
    have HA1 : Hid (SR chgE w1 A1 l) := hc1.sr
    clear hb1 hc1
    refine (Run_any s f g A1 c1 l _ HA1.out hL (HAL.out.ext HB1.out)).mono ?_
    unfold RunPost
    rw [HRN.out]
    rintro e w2 ⟨rfl, hb2⟩
    have K0' := Lib.hid (K0.out.below_ hb2 K0.out.lt)
    have HB2 := Lib.hid (HB1.out.trans (hb2.mono HB1.out.size))
    have HA2 := Lib.hid (HA1.out.ext hb2)
    clear hb2 q0 q1 q2 K0 HB1 HA1
    have q0 : w2.cell? ⟨w.heap.size, 0, none⟩ = some (.int .i64 s) := (K0'.out.cell_ 0).trans (by simp)
    have q1 : w2.cell? ⟨w.heap.size, 1, none⟩ = some (.int .i64 f) := (K0'.out.cell_ 1).trans (by simp)
    have q2 : w2.cell? ⟨w.heap.size, 2, none⟩ = some (.int .i64 g) := (K0'.out.cell_ 2).trans (by simp)
    have z2 := K0'.out.lt
    go_wp2_with fail
    obtain ⟨V, hV⟩ : ∃ V, w2.alloc (.cells #[.int .i64 b0, .int .i64 b1, .int .i64 b2] 23) = V := ⟨_, rfl⟩
    have bV : Below w2.heap.size w2 V := by rw [← hV]; exact (Below.refl _ _).alloc (Nat.le_refl _) _
    have K6 : Hid (Blk V w2.heap.size 23 #[.int .i64 b0, .int .i64 b1, .int .i64 b2]) := by show Blk _ _ _ _; rw [← hV]; exact Blk.new_ rfl rfl
    have K0 := Lib.hid (K0'.out.below_ bV K0'.out.lt)
    have HB3 := Lib.hid (HB2.out.trans (bV.mono HB2.out.size))
    have HA3 := Lib.hid (HA2.out.ext bV)
    rw [hV]
    clear hV bV q0 q1 q2 K0' HB2 HA2
    refine (RRun_any s f g A c l _ (HS.out.ext HB3.out) hL).mono ?_
    unfold RunPost
    rw [HRN.out]
    rintro e w3 ⟨rfl, hb3⟩
    have K6' := Lib.hid (K6.out.below_ hb3 K6.out.lt)
    have K0' := Lib.hid (K0.out.below_ hb3 K0.out.lt)
    have HB4 := Lib.hid (HB3.out.trans (hb3.mono HB3.out.size))
    have HA4 := Lib.hid (HA3.out.ext hb3)
    clear hb3 K6 K0 HB3 HA3
    have y0 : w3.cell? ⟨w2.heap.size, 0, none⟩ = some (.int .i64 b0) := (K6'.out.cell_ 0).trans (by simp)
    have y1 : w3.cell? ⟨w2.heap.size, 1, none⟩ = some (.int .i64 b1) := (K6'.out.cell_ 1).trans (by simp)
    have y2 : w3.cell? ⟨w2.heap.size, 2, none⟩ = some (.int .i64 b2) := (K6'.out.cell_ 2).trans (by simp)
    have z6 := K6'.out.lt
    go_wp2_with fail
    obtain ⟨V, hV⟩ : ∃ V, w3.alloc (.cells #[.int .i64 b0, .int .i64 b1, .int .i64 b2] 23) = V := ⟨_, rfl⟩
    have bV : Below w3.heap.size w3 V := by rw [← hV]; exact (Below.refl _ _).alloc (Nat.le_refl _) _
    have K0 := Lib.hid (K0'.out.below_ bV K0'.out.lt)
    have HB5 := Lib.hid (HB4.out.trans (bV.mono HB4.out.size))
    have HA5 := Lib.hid (HA4.out.ext bV)
    have HS5 := Lib.hid (HS.out.ext HB5.out)
    rw [hV]
    clear hV bV y0 y1 y2 z6 z2 K6' K0' HB4 HA4
    go_loopw [12] (fun i wr => ∃ k : Nat, k ≤ l.length ∧ i = .int .i64 k ∧ Below V.heap.size V wr) (fun i _ => l.length - (intOf i).toNat)
    case atStart => exact ⟨0, Nat.zero_le _, rfl, Below.refl _ _⟩
    case round =>
      obtain ⟨k, hk, rfl, hbr⟩ := hrel
      have HBR := Lib.hid hbr
      clear hbr
      by_cases hlt : k < l.length
      · obtain ⟨d0, o0, ⟨x0, x1⟩, rfl, hd0, hx, c0, c1⟩ := chg_at (HA5.out.ext HBR.out) hlt
        obtain ⟨d1, o1, x', rfl, hd1, hx', c2, c3⟩ := chg_at (HS5.out.ext HBR.out) hlt
        obtain rfl : (x0, x1) = x' := Option.some.inj (hx.symm.trans hx')
        have i1 : (k : Int) < l.length := by omega
        have hq2 := fun W => eq_chg W (x0, x1) (x0, x1)
        rw [decide_eq_true rfl] at hq2
        simp only at hq2
        clear hx hx'
        go_wp2_with fail
        refine wp_region_chain2 [0, 0, 0, 1, 0, 0, 0, 1, 0] [[], [], [], [], [], [], [], [], []] [.is ?fen0, .is ?fen1, .is ?fen2, .kn ?fen3, .is ?fen4, .is ?fen5, .is ?fen6, .kn ?fen7, .is (.bool false)] (by rfl) (by rfl) (by kernel_rfl) (by kernel_rfl) (by kernel_rfl) (by kernel_rfl) (by kernel_rfl) (by kernel_rfl) (lts_is (lts_is (lts_is (lts_kn (lts_is (lts_is (lts_is (lts_kn (lts_is lts_nil))))))))) (fun W0 hb0 hz0 => ?_)
        rotate_left 8
        rw [show lateIdx [0, 0, 0, 1, 0, 0, 0, 1, 0] = [] from by rfl]
        have p0 := cell_keep hb0 c0 hd0
        have p1 := cell_keep hb0 c1 hd0
        have p2 := cell_keep hb0 c2 hd1
        have p3 := cell_keep hb0 c3 hd1
        have zLp0 : d0 < W0.heap.size := Nat.lt_of_lt_of_le hd0 hb0.size
        have zLp2 : d1 < W0.heap.size := Nat.lt_of_lt_of_le hd1 hb0.size
        refine chn_is (stp_pure (by rfl) ?yen0) ?ren0
        case yen0 =>
          intro w
          go_simp
          first | done | with_reducible rfl
        (try simp only [Act.put, List.setIfInBounds_toArray, List.set_cons_zero, List.set_cons_succ, List.nil_append, List.cons_append, Nat.reduceAdd])
        refine chn_is (stp_pure (by rfl) ?yen1) ?ren1
        case yen1 =>
          intro w
          go_simp
          first | done | with_reducible rfl
        (try simp only [Act.put, List.setIfInBounds_toArray, List.set_cons_zero, List.set_cons_succ, List.nil_append, List.cons_append, Nat.reduceAdd])
        refine chn_is (stp_pure (by rfl) ?yen2) ?ren2
        case yen2 =>
          intro w
          go_simp
          first | done | with_reducible rfl
        (try simp only [Act.put, List.setIfInBounds_toArray, List.set_cons_zero, List.set_cons_succ, List.nil_append, List.cons_append, Nat.reduceAdd])
        refine chn_kn (stp_take (by rfl) ?yen3) ?ren3
        case yen3 =>
          intro w hbw hd
          have r0 := cell_keep hbw p0 zLp0
          have r1 := cell_keep hbw p1 zLp0
          clear hd
          go_simp
          first | done | with_reducible rfl
        (try simp only [Act.put, List.setIfInBounds_toArray, List.set_cons_zero, List.set_cons_succ, List.nil_append, List.cons_append, Nat.reduceAdd])
        refine chn_is (stp_pure (by rfl) ?yen4) ?ren4
        case yen4 =>
          intro w
          go_simp
          first | done | with_reducible rfl
        (try simp only [Act.put, List.setIfInBounds_toArray, List.set_cons_zero, List.set_cons_succ, List.nil_append, List.cons_append, Nat.reduceAdd])
        refine chn_is (stp_pure (by rfl) ?yen5) ?ren5
        case yen5 =>
          intro w
          go_simp
          first | done | with_reducible rfl
        (try simp only [Act.put, List.setIfInBounds_toArray, List.set_cons_zero, List.set_cons_succ, List.nil_append, List.cons_append, Nat.reduceAdd])
        refine chn_is (stp_pure (by rfl) ?yen6) ?ren6
        case yen6 =>
          intro w
          go_simp
          first | done | with_reducible rfl
        (try simp only [Act.put, List.setIfInBounds_toArray, List.set_cons_zero, List.set_cons_succ, List.nil_append, List.cons_append, Nat.reduceAdd])
        refine chn_kn (stp_take (by rfl) ?yen7) ?ren7
        case yen7 =>
          intro w hbw hd
          have r0 := cell_keep hbw p2 zLp2
          have r1 := cell_keep hbw p3 zLp2
          clear hd
          go_simp
          first | done | with_reducible rfl
        (try simp only [Act.put, List.setIfInBounds_toArray, List.set_cons_zero, List.set_cons_succ, List.nil_append, List.cons_append, Nat.reduceAdd])
        refine chn_is (stp_pure (by rfl) ?yen8) ?ren8
        case yen8 =>
          intro w
          go_simp
          first | done | rfl
        (try simp only [Act.put, List.setIfInBounds_toArray, List.set_cons_zero, List.set_cons_succ, List.nil_append, List.cons_append, Nat.reduceAdd])
        refine chn_end (fun wz lo hi hbz hd hR => ?_)
        have HB6 := Lib.hid (HBR.out.trans ((hb0.trans (hbz.mono hb0.size)).mono HBR.out.size))
        clear hd hR p0 p1 p2 p3 zLp0 zLp2 hb0 hbz hz0
        refine late_none ?_
        go_wp2_with fail
        go_roundw
        case rel => exact ⟨k + 1, by omega, by go_num, HB6.out⟩
        case measure => simp [intOf]; omega
      · obtain rfl : k = l.length := by omega
        have BT := Lib.hid (HB5.out.trans (HBR.out.mono HB5.out.size))
        have KT := Lib.hid (K0.out.below_ HBR.out K0.out.lt)
        clear HBR K0 HB5 HA5 HS5
        obtain ⟨x1, rfl⟩ : ∃ x1 : World, x1 = wr := ⟨_, rfl⟩
        have q0 : x1.cell? ⟨w.heap.size, 0, none⟩ = some (.int .i64 s) := (KT.out.cell_ 0).trans (by simp)
        have q1 : x1.cell? ⟨w.heap.size, 1, none⟩ = some (.int .i64 f) := (KT.out.cell_ 1).trans (by simp)
        have q2 : x1.cell? ⟨w.heap.size, 2, none⟩ = some (.int .i64 g) := (KT.out.cell_ 2).trans (by simp)
        go_wp2_with fail
        refine (Over_any s f g _ (HAL.out.ext BT.out)).mono ?_
        rw [HOV.out]
        rintro e x2 ⟨rfl, hx⟩
        have KRx2 := Lib.hid (KT.out.below_ hx KT.out.lt)
        have HBx2 := Lib.hid (BT.out.trans (hx.mono BT.out.size))
        clear hx q0 q1 q2 KT BT 
        have q0 : x2.cell? ⟨w.heap.size, 0, none⟩ = some (.int .i64 s) := (KRx2.out.cell_ 0).trans (by simp)
        have q1 : x2.cell? ⟨w.heap.size, 1, none⟩ = some (.int .i64 f) := (KRx2.out.cell_ 1).trans (by simp)
        have q2 : x2.cell? ⟨w.heap.size, 2, none⟩ = some (.int .i64 g) := (KRx2.out.cell_ 2).trans (by simp)
        go_wp2_with fail
        refine (ROver_any s f g _).mono ?_
        rw [HOV.out]
        rintro e x3 ⟨rfl, hx⟩
        have KRx3 := Lib.hid (KRx2.out.below_ hx KRx2.out.lt)
        have HBx3 := Lib.hid (HBx2.out.trans (hx.mono HBx2.out.size))
        clear hx q0 q1 q2 KRx2 HBx2 
        have q0 : x3.cell? ⟨w.heap.size, 0, none⟩ = some (.int .i64 s) := (KRx3.out.cell_ 0).trans (by simp)
        have q1 : x3.cell? ⟨w.heap.size, 1, none⟩ = some (.int .i64 f) := (KRx3.out.cell_ 1).trans (by simp)
        have q2 : x3.cell? ⟨w.heap.size, 2, none⟩ = some (.int .i64 g) := (KRx3.out.cell_ 2).trans (by simp)
        go_wp2_with fail
        refine (Shortest_any s f g _ (HAL.out.ext HBx3.out)).mono ?_
        unfold LsPost
        rw [HSH.out]
        rintro e x4 ⟨A7, c7, rfl, hi, hx⟩
        have HI7 := Lib.hid hi.1
        clear hi
        have KRx4 := Lib.hid (KRx3.out.below_ hx KRx3.out.lt)
        have HBx4 := Lib.hid (HBx3.out.trans (hx.mono HBx3.out.size))
        clear hx q0 q1 q2 KRx3 HBx3 
        have q0 : x4.cell? ⟨w.heap.size, 0, none⟩ = some (.int .i64 s) := (KRx4.out.cell_ 0).trans (by simp)
        have q1 : x4.cell? ⟨w.heap.size, 1, none⟩ = some (.int .i64 f) := (KRx4.out.cell_ 1).trans (by simp)
        have q2 : x4.cell? ⟨w.heap.size, 2, none⟩ = some (.int .i64 g) := (KRx4.out.cell_ 2).trans (by simp)
        go_wp2_with fail
        refine (RShortest_any s f g _).mono ?_
        unfold LsPost
        rw [HSH.out]
        rintro e x5 ⟨A8, c8, rfl, hi, hx⟩
        have HI8 := Lib.hid hi.1
        clear hi
        have HJ7 := Lib.hid (HI7.out.ext hx)
        have KRx5 := Lib.hid (KRx4.out.below_ hx KRx4.out.lt)
        have HBx5 := Lib.hid (HBx4.out.trans (hx.mono HBx4.out.size))
        clear hx q0 q1 q2 KRx4 HBx4 HI7
        have q0 : x5.cell? ⟨w.heap.size, 0, none⟩ = some (.int .i64 s) := (KRx5.out.cell_ 0).trans (by simp)
        have q1 : x5.cell? ⟨w.heap.size, 1, none⟩ = some (.int .i64 f) := (KRx5.out.cell_ 1).trans (by simp)
        have q2 : x5.cell? ⟨w.heap.size, 2, none⟩ = some (.int .i64 g) := (KRx5.out.cell_ 2).trans (by simp)
        go_wp2_with fail
        refine (SameInts_any A7 A8 c7 c8 sl sl _ HJ7.out HI8.out (by omega) (by omega)).mono ?_
        rw [decide_eq_true rfl]
        rintro e x6 ⟨rfl, hx⟩
        have KRx6 := Lib.hid (KRx5.out.below_ hx KRx5.out.lt)
        have HBx6 := Lib.hid (HBx5.out.trans (hx.mono HBx5.out.size))
        clear hx q0 q1 q2 KRx5 HBx5 
        have q0 : x6.cell? ⟨w.heap.size, 0, none⟩ = some (.int .i64 s) := (KRx6.out.cell_ 0).trans (by simp)
        have q1 : x6.cell? ⟨w.heap.size, 1, none⟩ = some (.int .i64 f) := (KRx6.out.cell_ 1).trans (by simp)
        have q2 : x6.cell? ⟨w.heap.size, 2, none⟩ = some (.int .i64 g) := (KRx6.out.cell_ 2).trans (by simp)
        go_wp2_with fail
        refine (awake_any _ (HAL.out.ext HBx6.out)).mono ?_
        rintro e x7 ⟨rfl, hx⟩
        have KRx7 := Lib.hid (KRx6.out.below_ hx KRx6.out.lt)
        have HBx7 := Lib.hid (HBx6.out.trans (hx.mono HBx6.out.size))
        clear hx q0 q1 q2 KRx6 HBx6 
        go_wp2_with fail
        go_ret
        exact ⟨rfl, HBx7.out⟩
  · have i20 : ¬ ((l.length : Int) ≤ 20) := by omega
    go_enter Tryd.func5, Tryd.ntmps5
    go_wp2_with fail
    refine (awake_any _ (HAL.out.ext (by repeat' (first | with_reducible exact Below.refl _ _ | with_reducible assumption | with_reducible apply Below.drew | with_reducible apply below_drewN | with_reducible apply Below.alloc | with_reducible apply Below.setCell | (with_reducible refine Below.trans ?_ (Below.mono (by assumption) ?_)) | (simp; done) | (simp; omega) | omega | with_reducible apply le_size_alloc | with_reducible apply le_size_drewN | with_reducible apply le_size_drew | with_reducible apply le_size_setCell | refine Nat.le_trans ?_ (Below.size (by assumption)))))).mono ?_
    rintro e w1 ⟨rfl, hb1⟩
    go_wp2_with fail
    go_ret
    exact ⟨rfl, (by repeat' (first | with_reducible exact Below.refl _ _ | with_reducible assumption | with_reducible apply Below.drew | with_reducible apply below_drewN | with_reducible apply Below.alloc | with_reducible apply Below.setCell | (with_reducible refine Below.trans ?_ (Below.mono (by assumption) ?_)) | (simp; done) | (simp; omega) | omega | with_reducible apply le_size_alloc | with_reducible apply le_size_drewN | with_reducible apply le_size_drew | with_reducible apply le_size_setCell | refine Nat.le_trans ?_ (Below.size (by assumption))))⟩

set_option maxRecDepth 100000 in
theorem readinRuns_lifted (os : Os) (started : os.Started) (H : Type) (enc : TypeId × Value → H) :
    ReturnsInHanded {} Tryd.checked os 5 .any (fun w args => (Rows.readinRunsSpec.pre enc Tryd.prog Tryd.f5 [] false w args ∧ laidMetH Tryd.prog laidV w) ∧ sizedMet enc Tryd.prog Tryd.f5 (OpenSpec.ofChange Rows.readinRunsSpec) false w args) (Rows.readinRunsSpec.post enc Tryd.prog Tryd.f5 false true false false) := by
  refine returnsInHanded_of_change_and (C := Tryd.checked) (X := fun w _ => laidMetH Tryd.prog laidV w) (fun _ _ _ hh h => h.of_heap hh) own started (by kernel_rfl) Tryd.func5
    (ChangeSpec.witness_shaped (enc := enc) (C := Tryd.checked) (os := os) (X := fun w _ => laidMetH Tryd.prog laidV w) false (World.doorLaid Tryd.prog 400 os) #[.agg #[.int .i64 0, .int .i64 0, .int .i64 0], .slice none 0 0] 8 rfl (World.shaped_of_RefB (by kernel_rfl) (by kernel_rfl)) (by kernel_rfl) (by kernel_rfl) (by kernel_rfl) (door_met os _)) ?_
  intro W base args ds gs before hval0 hW hcnd _ hL _
  have hval : ∀ (j : Nat) t v, Tryd.f5.params[j]? = some t → args[j]? = some v → Value.okWide Tryd.prog W .any base t v := hval0
  have hW' := hW
  obtain ⟨p, q, hA0, hV, rfl, hfz, hnd⟩ := hW
  have hA : DataW.TrodAll enc Tryd.prog W 0 (fun _ => true) true Tryd.f5.params.toList args.toList ds p := hA0
  rw [Tryd.params5] at hA hval
  obtain ⟨v0, vs0, d0, ds0, p0, q0, hargs, rfl, rfl, h0, r0⟩ := trodAll_cons hA
  obtain ⟨v1, vs1, d1, ds1, p1, q1, rfl, rfl, rfl, h1, r1⟩ := trodAll_cons r0
  obtain ⟨rfl, rfl, rfl⟩ := trodAll_nil r1
  obtain rfl : args = #[v0, v1] := by cases args; simp_all
  obtain ⟨rfl, rfl⟩ := trodVars_none hV
  obtain ⟨c00, c01, c02, y00, y01, y02, m0, rfl, rfl, rfl, hy00, hy01, hy02⟩ := open_agg3 Tryd.underlying23 (by kernel_rfl) (by kernel_rfl) (hval 0 23 v0 rfl rfl) h0
  obtain ⟨a00, e00, f00, w00⟩ := DataW.trod_int Tryd.underlying3 hy00
  simp at e00; subst e00
  obtain ⟨a01, e01, f01, w01⟩ := DataW.trod_int Tryd.underlying3 hy01
  simp at e01; subst e01
  obtain ⟨a02, e02, f02, w02⟩ := DataW.trod_int Tryd.underlying3 hy02
  simp at e02; subst e02
  obtain ⟨A1, k1, a1, rfl, s1, l1⟩ := open_chg (hval 1 45 v1 rfl rfl) h1
  clear hA0 hval0
  refine (readinRuns_walk a00 a01 a02 A1 k1 a1 W w00 w01 w02 s1 l1 (of_laid hL)).mono fun e W' ⟨he, hb⟩ => ⟨_, he, ?_⟩
  exact law_post laidOut (s := Rows.readinRunsSpec) (B := 4) rfl rfl Tryd.underlying4 (by decide +kernel) hW' rfl hb

theorem readinRuns_holds : Rows.ReadinRunsSaid :=
  OpenClaim.holds_of_wide 5 Tryd.f5 rfl rfl rfl rfl rfl rfl rfl ⟨rfl, rfl, rfl, rfl, rfl⟩ rfl rfl rfl rfl rfl (by kernel_rfl) Tryd.func5 (by kernel_rfl)
    (of_decide_eq_true (by kernel_rfl)) (by unfold Func.isWrapper; first | (rw [if_pos (by decide +kernel)]; kernel_rfl) | (rw [if_neg (by decide +kernel)]; exact ⟨rfl, rfl⟩))
    (fun os started H enc _ => readinRuns_lifted os started H enc)

theorem readinRuns_card : Rows.ReadinRunsCardSaid :=
  Claim7.holds_tied_plain_at .later [] [.data] true Rows.readinRunsCard.stood.harness false
    readinRuns_holds (fun _ h => by cases h) (by kernel_rfl) (fun _ h => by cases h) readinRuns_row_tie rfl ⟨rfl, rfl⟩ (by kernel_rfl) rfl
    (fun f fn hf hfn => by
      obtain rfl : f = 5 := Option.some.inj ((show Tryd.prog.funcNamed "headgate/headgatelaw21.ReadinRuns" = some 5 by kernel_rfl).symm.trans hf) |>.symm
      obtain rfl : fn = Tryd.f5 := (Option.some.inj (Tryd.func5.symm.trans hfn)).symm
      exact ⟨by kernel_rfl, fun j t ht => by
        have hall : (Tryd.f5.params.toList.all fun u => !Tryd.prog.wantsStandIn u) = true := by kernel_rfl
        have hm : t ∈ Tryd.f5.params.toList := by simpa using Array.mem_of_getElem? ht
        exact (show Tryd.prog.wantsStandIn t = false by simpa using List.all_eq_true.1 hall t hm)⟩)
    (by kernel_rfl)

end Go.Proofs.YtngenoblifhnpaaDoor
