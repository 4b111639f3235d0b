/- scan.Sweep, scan.Safe, where something is refused. Written by gen_scbad.py. -/
import Derived.Test.YtiobbdfkimpfbaaScSf
namespace Go.Proofs.Ytiobbdfkimpfbaa
set_option linter.unusedSimpArgs false
set_option linter.unusedVariables false
open Go.RowKit Go.Maps

set_option maxRecDepth 100000 in
set_option maxHeartbeats 4000000 in
theorem Sweep_bad (A1 A2 A3 : Option Addr) (c1 c2 c3 : Nat) (xs ys : List Int) (rs : List Bool) (T m : Int) (w : World) (h : InMem w A1 A2 A3 xs ys rs) (ht : tgtB T = true) {bn : Bool} (hn : cntB m = bn) {z : Int} (hz : sndS xs ys rs bn = z) (h0 : z ≠ 0) :
    Calls Try.prog 18 #[.agg #[.slice A1 xs.length c1, .slice A2 ys.length c2, .slice A3 rs.length c3], .int .i64 T, .int .i64 m] w fun e w' => e = .returned (.tuple #[.agg #[.slice none 0 0, .slice none 0 0, .slice none 0 0], .slice none 0 0, .int .i64 z]) ∧ Below w.heap.size w w' := by
  have HM := Lib.hid h; have HT := Lib.hid ht; have HZ := Lib.hid hz
  have nz : (z != 0) = true := by simpa using h0
  have HN := Lib.hid hn
  clear h ht hz h0 hn
  obtain ⟨X, hX⟩ : ∃ X, (w.alloc (.cells #[.slice A1 xs.length c1, .slice A2 ys.length c2, .slice A3 rs.length c3] 25)).alloc (.cells #[.slice none 0 0, .slice none 0 0, .slice none 0 0] 25) = X := ⟨_, rfl⟩
  have k1 : Blk X w.heap.size 25 #[.slice A1 xs.length c1, .slice A2 ys.length c2, .slice A3 rs.length c3] := by rw [← hX]; exact (Blk.new_ rfl rfl).alloc_ _
  have k2 : Blk X (w.heap.size + 1) 25 #[.slice none 0 0, .slice none 0 0, .slice none 0 0] := by rw [← hX]; exact Blk.new_ (by simp) rfl
  have HBX : Hid (Below w.heap.size w X) := by show Below _ _ _; rw [← hX]; exact ((Below.refl _ _).alloc (Nat.le_refl _) _).alloc (by simp) _
  go_enter Try.func18, Try.ntmps18
  go_wp2_with fail
  (try rw [hX])
  clear hX
  refine wp_region_chain2 [1, 0, 1, 0, 0, 1, 0, 1, 0] [[], [], [], [], [], [], [], [], []] [.kn ?fbst0, .is ?fbst1, .kn (.bool true), .is ?fbst3, .is ?fbst4, .kn (.bool bn), .is ?fbst6, .kn (.int .i64 z), .is ?fbst8] (by rfl) (by rfl) (by kernel_rfl) (by kernel_rfl) (by kernel_rfl) (by kernel_rfl) (by kernel_rfl) (by kernel_rfl) (lts_kn (lts_is (lts_kn (lts_is (lts_is (lts_kn (lts_is (lts_kn (lts_is lts_nil))))))))) (fun W0 hb0 hz0 => ?_)
  rotate_left 6
  rw [show lateIdx [1, 0, 1, 0, 0, 1, 0, 1, 0] = [] from by rfl]
  have hb1 := HBX.out.trans (hb0.mono HBX.out.size)
  have kW := k1.below_ hb0 k1.lt
  have zW := kW.lt
  have p0 : W0.cell? ⟨w.heap.size, 0, none⟩ = some (.slice A1 xs.length c1) := (kW.cell_ 0).trans (by simp)
  have p1 : W0.cell? ⟨w.heap.size, 1, none⟩ = some (.slice A2 ys.length c2) := (kW.cell_ 1).trans (by simp)
  have p2 : W0.cell? ⟨w.heap.size, 2, none⟩ = some (.slice A3 rs.length c3) := (kW.cell_ 2).trans (by simp)
  refine chn_kn (stp_take (by rfl) ?ybst0) ?rbst0
  case ybst0 =>
    intro w hbw hd
    have r0 := cell_keep hbw p0 zW
    have r1 := cell_keep hbw p1 zW
    have r2 := cell_keep hbw p2 zW
    clear hd
    go_simp
    first | done | with_reducible rfl
  (try simp only [Act.put, List.setIfInBounds_toArray, List.set_cons_zero, List.set_cons_succ, List.nil_append, List.cons_append, Nat.reduceAdd])
  refine chn_is (stp_pure (by rfl) ?ybst1) ?rbst1
  case ybst1 =>
    intro w
    go_simp
    first | done | with_reducible rfl
  (try simp only [Act.put, List.setIfInBounds_toArray, List.set_cons_zero, List.set_cons_succ, List.nil_append, List.cons_append, Nat.reduceAdd])
  refine chn_kn ?sbst2 ?rbst2
  case sbst2 =>
    intro w hbw hd K Q' hK
    clear hd
    go_simp
    refine (isTarget_any T _).mono ?_
    rw [HT.out]
    rintro e y ⟨rfl, rfl⟩
    go_wp2_with fail
    refine hK.out (.bool true) _ _ ?_ ?_ rfl
    · (simp only [Act.put, List.setIfInBounds_toArray, List.set_cons_zero, List.set_cons_succ, List.nil_append, List.cons_append, Nat.reduceAdd])
    · exact (by repeat' (first | with_reducible exact Below.refl _ _ | with_reducible assumption | with_reducible apply Below.drew | with_reducible apply below_drewN | with_reducible apply Below.alloc | with_reducible apply Below.setCell | (with_reducible refine Below.trans ?_ (Below.mono (by assumption) ?_)) | (simp; done) | (simp; omega) | omega | with_reducible apply le_size_alloc | with_reducible apply le_size_drewN | with_reducible apply le_size_drew | with_reducible apply le_size_setCell | with_reducible refine Nat.le_trans ?_ (Below.size (by assumption))))
  (try simp only [Act.put, List.setIfInBounds_toArray, List.set_cons_zero, List.set_cons_succ, List.nil_append, List.cons_append, Nat.reduceAdd])
  refine chn_is (stp_pure (by rfl) ?ybst3) ?rbst3
  case ybst3 =>
    intro w
    go_simp
    first | done | with_reducible rfl
  (try simp only [Act.put, List.setIfInBounds_toArray, List.set_cons_zero, List.set_cons_succ, List.nil_append, List.cons_append, Nat.reduceAdd])
  refine chn_is (stp_pure (by rfl) ?ybst4) ?rbst4
  case ybst4 =>
    intro w
    go_simp
    first | done | with_reducible rfl
  (try simp only [Act.put, List.setIfInBounds_toArray, List.set_cons_zero, List.set_cons_succ, List.nil_append, List.cons_append, Nat.reduceAdd])
  refine chn_kn ?sbst5 ?rbst5
  case sbst5 =>
    intro w hbw hd K Q' hK
    clear hd
    go_simp
    refine (isCount_any m _).mono ?_
    rw [HN.out]
    rintro e y ⟨rfl, rfl⟩
    go_wp2_with fail
    refine hK.out (.bool bn) _ _ ?_ ?_ rfl
    · (simp only [Act.put, List.setIfInBounds_toArray, List.set_cons_zero, List.set_cons_succ, List.nil_append, List.cons_append, Nat.reduceAdd])
    · exact (by repeat' (first | with_reducible exact Below.refl _ _ | with_reducible assumption | with_reducible apply Below.drew | with_reducible apply below_drewN | with_reducible apply Below.alloc | with_reducible apply Below.setCell | (with_reducible refine Below.trans ?_ (Below.mono (by assumption) ?_)) | (simp; done) | (simp; omega) | omega | with_reducible apply le_size_alloc | with_reducible apply le_size_drewN | with_reducible apply le_size_drew | with_reducible apply le_size_setCell | with_reducible refine Nat.le_trans ?_ (Below.size (by assumption))))
  (try simp only [Act.put, List.setIfInBounds_toArray, List.set_cons_zero, List.set_cons_succ, List.nil_append, List.cons_append, Nat.reduceAdd])
  refine chn_is (stp_pure (by rfl) ?ybst6) ?rbst6
  case ybst6 =>
    intro w
    go_simp
    first | done | with_reducible rfl
  (try simp only [Act.put, List.setIfInBounds_toArray, List.set_cons_zero, List.set_cons_succ, List.nil_append, List.cons_append, Nat.reduceAdd])
  refine chn_kn ?sbst7 ?rbst7
  case sbst7 =>
    intro w hbw hd K Q' hK
    clear hd
    go_simp
    refine (sound_any A1 A2 A3 c1 c2 c3 xs ys rs bn _ (HM.out.ext (hb1.trans (hbw.mono hb1.size)))).mono ?_
    rw [HZ.out]
    rintro e y ⟨rfl, hy⟩
    go_wp2_with fail
    refine hK.out (.int .i64 z) _ _ ?_ ?_ rfl
    · (simp only [Act.put, List.setIfInBounds_toArray, List.set_cons_zero, List.set_cons_succ, List.nil_append, List.cons_append, Nat.reduceAdd])
    · exact (by repeat' (first | with_reducible exact Below.refl _ _ | with_reducible assumption | with_reducible apply Below.drew | with_reducible apply below_drewN | with_reducible apply Below.alloc | with_reducible apply Below.setCell | (with_reducible refine Below.trans ?_ (Below.mono (by assumption) ?_)) | (simp; done) | (simp; omega) | omega | with_reducible apply le_size_alloc | with_reducible apply le_size_drewN | with_reducible apply le_size_drew | with_reducible apply le_size_setCell | with_reducible refine Nat.le_trans ?_ (Below.size (by assumption))))
  (try simp only [Act.put, List.setIfInBounds_toArray, List.set_cons_zero, List.set_cons_succ, List.nil_append, List.cons_append, Nat.reduceAdd])
  refine chn_is (stp_pure (by rfl) ?ybst8) ?rbst8
  case ybst8 =>
    intro w
    go_simp
    first | done | with_reducible rfl
  (try simp only [Act.put, List.setIfInBounds_toArray, List.set_cons_zero, List.set_cons_succ, List.nil_append, List.cons_append, Nat.reduceAdd])
  refine chn_end (fun wz lo hi hbz hd hR => ?_)
  have HB4 := Lib.hid (hb1.trans (hbz.mono hb1.size))
  have K1 := Lib.hid (kW.below_ hbz zW)
  have HX4 := Lib.hid (hb0.trans (hbz.mono hb0.size))
  clear hd hR p0 p1 p2 zW kW hb1 k1 hb0 hbz hz0 HBX
  refine late_none ?_
  obtain ⟨x4, rfl⟩ : ∃ x4 : World, x4 = wz := ⟨_, rfl⟩
  have K2 := Lib.hid (k2.below_ HX4.out k2.lt)
  have kl2 := K2.out.lt
  have y0 : x4.cell? ⟨w.heap.size + 1, 0, none⟩ = some (.slice none 0 0) := (K2.out.cell_ 0).trans (by simp)
  have y1 : x4.cell? ⟨w.heap.size + 1, 1, none⟩ = some (.slice none 0 0) := (K2.out.cell_ 1).trans (by simp)
  have y2 : x4.cell? ⟨w.heap.size + 1, 2, none⟩ = some (.slice none 0 0) := (K2.out.cell_ 2).trans (by simp)
  have g0 := K2.out.frozen_ 0
  have g1 := K2.out.frozen_ 1
  have g2 := K2.out.frozen_ 2
  go_wp2_with fail
  refine bodyPost_ret (v := .tuple #[.agg #[.slice none 0 0, .slice none 0 0, .slice none 0 0], .slice none 0 0, .int .i64 z]) (by simp [results, Try.results18, go_sem, y0, y1, y2]) rfl ?_
  exact ⟨rfl, ((HB4.out.setCell (p := ⟨w.heap.size + 1, 0, none⟩) (by simp) _).setCell (p := ⟨w.heap.size + 1, 1, none⟩) (by simp) _).setCell (p := ⟨w.heap.size + 1, 2, none⟩) (by simp) _⟩

set_option maxRecDepth 100000 in
set_option maxHeartbeats 4000000 in
theorem Sweep_badT (A1 A2 A3 : Option Addr) (c1 c2 c3 : Nat) (xs ys : List Int) (rs : List Bool) (T m : Int) (w : World) (h : InMem w A1 A2 A3 xs ys rs) (ht : tgtB T = false) {z : Int} (hz : sndS xs ys rs false = z) (h0 : z ≠ 0) :
    Calls Try.prog 18 #[.agg #[.slice A1 xs.length c1, .slice A2 ys.length c2, .slice A3 rs.length c3], .int .i64 T, .int .i64 m] w fun e w' => e = .returned (.tuple #[.agg #[.slice none 0 0, .slice none 0 0, .slice none 0 0], .slice none 0 0, .int .i64 z]) ∧ Below w.heap.size w w' := by
  have HM := Lib.hid h; have HT := Lib.hid ht; have HZ := Lib.hid hz
  have nz : (z != 0) = true := by simpa using h0
  clear h ht hz h0
  obtain ⟨X, hX⟩ : ∃ X, (w.alloc (.cells #[.slice A1 xs.length c1, .slice A2 ys.length c2, .slice A3 rs.length c3] 25)).alloc (.cells #[.slice none 0 0, .slice none 0 0, .slice none 0 0] 25) = X := ⟨_, rfl⟩
  have k1 : Blk X w.heap.size 25 #[.slice A1 xs.length c1, .slice A2 ys.length c2, .slice A3 rs.length c3] := by rw [← hX]; exact (Blk.new_ rfl rfl).alloc_ _
  have k2 : Blk X (w.heap.size + 1) 25 #[.slice none 0 0, .slice none 0 0, .slice none 0 0] := by rw [← hX]; exact Blk.new_ (by simp) rfl
  have HBX : Hid (Below w.heap.size w X) := by show Below _ _ _; rw [← hX]; exact ((Below.refl _ _).alloc (Nat.le_refl _) _).alloc (by simp) _
  go_enter Try.func18, Try.ntmps18
  go_wp2_with fail
  (try rw [hX])
  clear hX
  refine wp_region_chain2 [1, 0, 1, 0, 0, 0, 0, 1, 0] [[], [], [], [], [], [], [], [], []] [.kn ?fbsn0, .is ?fbsn1, .kn (.bool false), .is ?fbsn3, .is undef, .is undef, .is ?fbsn6, .kn (.int .i64 z), .is ?fbsn8] (by rfl) (by rfl) (by kernel_rfl) (by kernel_rfl) (by kernel_rfl) (by kernel_rfl) (by kernel_rfl) (by kernel_rfl) (lts_kn (lts_is (lts_kn (lts_is (lts_is (lts_is (lts_is (lts_kn (lts_is lts_nil))))))))) (fun W0 hb0 hz0 => ?_)
  rotate_left 5
  rw [show lateIdx [1, 0, 1, 0, 0, 0, 0, 1, 0] = [] from by rfl]
  have hb1 := HBX.out.trans (hb0.mono HBX.out.size)
  have kW := k1.below_ hb0 k1.lt
  have zW := kW.lt
  have p0 : W0.cell? ⟨w.heap.size, 0, none⟩ = some (.slice A1 xs.length c1) := (kW.cell_ 0).trans (by simp)
  have p1 : W0.cell? ⟨w.heap.size, 1, none⟩ = some (.slice A2 ys.length c2) := (kW.cell_ 1).trans (by simp)
  have p2 : W0.cell? ⟨w.heap.size, 2, none⟩ = some (.slice A3 rs.length c3) := (kW.cell_ 2).trans (by simp)
  refine chn_kn (stp_take (by rfl) ?ybsn0) ?rbsn0
  case ybsn0 =>
    intro w hbw hd
    have r0 := cell_keep hbw p0 zW
    have r1 := cell_keep hbw p1 zW
    have r2 := cell_keep hbw p2 zW
    clear hd
    go_simp
    first | done | with_reducible rfl
  (try simp only [Act.put, List.setIfInBounds_toArray, List.set_cons_zero, List.set_cons_succ, List.nil_append, List.cons_append, Nat.reduceAdd])
  refine chn_is (stp_pure (by rfl) ?ybsn1) ?rbsn1
  case ybsn1 =>
    intro w
    go_simp
    first | done | with_reducible rfl
  (try simp only [Act.put, List.setIfInBounds_toArray, List.set_cons_zero, List.set_cons_succ, List.nil_append, List.cons_append, Nat.reduceAdd])
  refine chn_kn ?sbsn2 ?rbsn2
  case sbsn2 =>
    intro w hbw hd K Q' hK
    clear hd
    go_simp
    refine (isTarget_any T _).mono ?_
    rw [HT.out]
    rintro e y ⟨rfl, rfl⟩
    go_wp2_with fail
    refine hK.out (.bool false) _ _ ?_ ?_ rfl
    · (simp only [Act.put, List.setIfInBounds_toArray, List.set_cons_zero, List.set_cons_succ, List.nil_append, List.cons_append, Nat.reduceAdd])
    · exact (by repeat' (first | with_reducible exact Below.refl _ _ | with_reducible assumption | with_reducible apply Below.drew | with_reducible apply below_drewN | with_reducible apply Below.alloc | with_reducible apply Below.setCell | (with_reducible refine Below.trans ?_ (Below.mono (by assumption) ?_)) | (simp; done) | (simp; omega) | omega | with_reducible apply le_size_alloc | with_reducible apply le_size_drewN | with_reducible apply le_size_drew | with_reducible apply le_size_setCell | with_reducible refine Nat.le_trans ?_ (Below.size (by assumption))))
  (try simp only [Act.put, List.setIfInBounds_toArray, List.set_cons_zero, List.set_cons_succ, List.nil_append, List.cons_append, Nat.reduceAdd])
  refine chn_is (stp_pure (by rfl) ?ybsn3) ?rbsn3
  case ybsn3 =>
    intro w
    go_simp
    first | done | with_reducible rfl
  (try simp only [Act.put, List.setIfInBounds_toArray, List.set_cons_zero, List.set_cons_succ, List.nil_append, List.cons_append, Nat.reduceAdd])
  refine chn_is (stp_un (by rfl)) ?rbsn4
  (try simp only [Act.put, List.setIfInBounds_toArray, List.set_cons_zero, List.set_cons_succ, List.nil_append, List.cons_append, Nat.reduceAdd])
  refine chn_is (stp_un (by rfl)) ?rbsn5
  (try simp only [Act.put, List.setIfInBounds_toArray, List.set_cons_zero, List.set_cons_succ, List.nil_append, List.cons_append, Nat.reduceAdd])
  refine chn_is (stp_pure (by rfl) ?ybsn6) ?rbsn6
  case ybsn6 =>
    intro w
    go_simp
    first | done | with_reducible rfl
  (try simp only [Act.put, List.setIfInBounds_toArray, List.set_cons_zero, List.set_cons_succ, List.nil_append, List.cons_append, Nat.reduceAdd])
  refine chn_kn ?sbsn7 ?rbsn7
  case sbsn7 =>
    intro w hbw hd K Q' hK
    clear hd
    go_simp
    refine (sound_any A1 A2 A3 c1 c2 c3 xs ys rs false _ (HM.out.ext (hb1.trans (hbw.mono hb1.size)))).mono ?_
    rw [HZ.out]
    rintro e y ⟨rfl, hy⟩
    go_wp2_with fail
    refine hK.out (.int .i64 z) _ _ ?_ ?_ rfl
    · (simp only [Act.put, List.setIfInBounds_toArray, List.set_cons_zero, List.set_cons_succ, List.nil_append, List.cons_append, Nat.reduceAdd])
    · exact (by repeat' (first | with_reducible exact Below.refl _ _ | with_reducible assumption | with_reducible apply Below.drew | with_reducible apply below_drewN | with_reducible apply Below.alloc | with_reducible apply Below.setCell | (with_reducible refine Below.trans ?_ (Below.mono (by assumption) ?_)) | (simp; done) | (simp; omega) | omega | with_reducible apply le_size_alloc | with_reducible apply le_size_drewN | with_reducible apply le_size_drew | with_reducible apply le_size_setCell | with_reducible refine Nat.le_trans ?_ (Below.size (by assumption))))
  (try simp only [Act.put, List.setIfInBounds_toArray, List.set_cons_zero, List.set_cons_succ, List.nil_append, List.cons_append, Nat.reduceAdd])
  refine chn_is (stp_pure (by rfl) ?ybsn8) ?rbsn8
  case ybsn8 =>
    intro w
    go_simp
    first | done | with_reducible rfl
  (try simp only [Act.put, List.setIfInBounds_toArray, List.set_cons_zero, List.set_cons_succ, List.nil_append, List.cons_append, Nat.reduceAdd])
  refine chn_end (fun wz lo hi hbz hd hR => ?_)
  have HB4 := Lib.hid (hb1.trans (hbz.mono hb1.size))
  have K1 := Lib.hid (kW.below_ hbz zW)
  have HX4 := Lib.hid (hb0.trans (hbz.mono hb0.size))
  clear hd hR p0 p1 p2 zW kW hb1 k1 hb0 hbz hz0 HBX
  refine late_none ?_
  obtain ⟨x4, rfl⟩ : ∃ x4 : World, x4 = wz := ⟨_, rfl⟩
  have K2 := Lib.hid (k2.below_ HX4.out k2.lt)
  have kl2 := K2.out.lt
  have y0 : x4.cell? ⟨w.heap.size + 1, 0, none⟩ = some (.slice none 0 0) := (K2.out.cell_ 0).trans (by simp)
  have y1 : x4.cell? ⟨w.heap.size + 1, 1, none⟩ = some (.slice none 0 0) := (K2.out.cell_ 1).trans (by simp)
  have y2 : x4.cell? ⟨w.heap.size + 1, 2, none⟩ = some (.slice none 0 0) := (K2.out.cell_ 2).trans (by simp)
  have g0 := K2.out.frozen_ 0
  have g1 := K2.out.frozen_ 1
  have g2 := K2.out.frozen_ 2
  go_wp2_with fail
  refine bodyPost_ret (v := .tuple #[.agg #[.slice none 0 0, .slice none 0 0, .slice none 0 0], .slice none 0 0, .int .i64 z]) (by simp [results, Try.results18, go_sem, y0, y1, y2]) rfl ?_
  exact ⟨rfl, ((HB4.out.setCell (p := ⟨w.heap.size + 1, 0, none⟩) (by simp) _).setCell (p := ⟨w.heap.size + 1, 1, none⟩) (by simp) _).setCell (p := ⟨w.heap.size + 1, 2, none⟩) (by simp) _⟩

set_option maxRecDepth 100000 in
set_option maxHeartbeats 4000000 in
theorem Safe_bad (A1 A2 A3 : Option Addr) (c1 c2 c3 : Nat) (xs ys : List Int) (rs : List Bool) (T m : Int) (w : World) (h : InMem w A1 A2 A3 xs ys rs) (ht : tgtB T = true) {bn : Bool} (hn : cntB m = bn) {z : Int} (hz : sndS xs ys rs bn = z) (h0 : z ≠ 0) :
    Calls Try.prog 25 #[.agg #[.slice A1 xs.length c1, .slice A2 ys.length c2, .slice A3 rs.length c3], .int .i64 T, .int .i64 m] w fun e w' => e = .returned (.tuple #[.slice none 0 0, .int .i64 z]) ∧ Below w.heap.size w w' := by
  have HM := Lib.hid h; have HT := Lib.hid ht; have HZ := Lib.hid hz
  have nz : (z != 0) = true := by simpa using h0
  have HN := Lib.hid hn
  clear h ht hz h0 hn
  obtain ⟨X, hX⟩ : ∃ X, (w.alloc (.cells #[.slice A1 xs.length c1, .slice A2 ys.length c2, .slice A3 rs.length c3] 25)) = X := ⟨_, rfl⟩
  have k1 : Blk X w.heap.size 25 #[.slice A1 xs.length c1, .slice A2 ys.length c2, .slice A3 rs.length c3] := by rw [← hX]; exact Blk.new_ rfl rfl
  have HBX : Hid (Below w.heap.size w X) := by show Below _ _ _; rw [← hX]; exact (Below.refl _ _).alloc (Nat.le_refl _) _
  go_enter Try.func25, Try.ntmps25
  go_wp2_with fail
  (try rw [hX])
  clear hX
  refine wp_region_chain2 [1, 0, 1, 0, 0, 1, 0, 1, 0] [[], [], [], [], [], [], [], [], []] [.kn ?fbft0, .is ?fbft1, .kn (.bool true), .is ?fbft3, .is ?fbft4, .kn (.bool bn), .is ?fbft6, .kn (.int .i64 z), .is ?fbft8] (by rfl) (by rfl) (by kernel_rfl) (by kernel_rfl) (by kernel_rfl) (by kernel_rfl) (by kernel_rfl) (by kernel_rfl) (lts_kn (lts_is (lts_kn (lts_is (lts_is (lts_kn (lts_is (lts_kn (lts_is lts_nil))))))))) (fun W0 hb0 hz0 => ?_)
  rotate_left 6
  rw [show lateIdx [1, 0, 1, 0, 0, 1, 0, 1, 0] = [] from by rfl]
  have hb1 := HBX.out.trans (hb0.mono HBX.out.size)
  have kW := k1.below_ hb0 k1.lt
  have zW := kW.lt
  have p0 : W0.cell? ⟨w.heap.size, 0, none⟩ = some (.slice A1 xs.length c1) := (kW.cell_ 0).trans (by simp)
  have p1 : W0.cell? ⟨w.heap.size, 1, none⟩ = some (.slice A2 ys.length c2) := (kW.cell_ 1).trans (by simp)
  have p2 : W0.cell? ⟨w.heap.size, 2, none⟩ = some (.slice A3 rs.length c3) := (kW.cell_ 2).trans (by simp)
  refine chn_kn (stp_take (by rfl) ?ybft0) ?rbft0
  case ybft0 =>
    intro w hbw hd
    have r0 := cell_keep hbw p0 zW
    have r1 := cell_keep hbw p1 zW
    have r2 := cell_keep hbw p2 zW
    clear hd
    go_simp
    first | done | with_reducible rfl
  (try simp only [Act.put, List.setIfInBounds_toArray, List.set_cons_zero, List.set_cons_succ, List.nil_append, List.cons_append, Nat.reduceAdd])
  refine chn_is (stp_pure (by rfl) ?ybft1) ?rbft1
  case ybft1 =>
    intro w
    go_simp
    first | done | with_reducible rfl
  (try simp only [Act.put, List.setIfInBounds_toArray, List.set_cons_zero, List.set_cons_succ, List.nil_append, List.cons_append, Nat.reduceAdd])
  refine chn_kn ?sbft2 ?rbft2
  case sbft2 =>
    intro w hbw hd K Q' hK
    clear hd
    go_simp
    refine (isTarget_any T _).mono ?_
    rw [HT.out]
    rintro e y ⟨rfl, rfl⟩
    go_wp2_with fail
    refine hK.out (.bool true) _ _ ?_ ?_ rfl
    · (simp only [Act.put, List.setIfInBounds_toArray, List.set_cons_zero, List.set_cons_succ, List.nil_append, List.cons_append, Nat.reduceAdd])
    · exact (by repeat' (first | with_reducible exact Below.refl _ _ | with_reducible assumption | with_reducible apply Below.drew | with_reducible apply below_drewN | with_reducible apply Below.alloc | with_reducible apply Below.setCell | (with_reducible refine Below.trans ?_ (Below.mono (by assumption) ?_)) | (simp; done) | (simp; omega) | omega | with_reducible apply le_size_alloc | with_reducible apply le_size_drewN | with_reducible apply le_size_drew | with_reducible apply le_size_setCell | with_reducible refine Nat.le_trans ?_ (Below.size (by assumption))))
  (try simp only [Act.put, List.setIfInBounds_toArray, List.set_cons_zero, List.set_cons_succ, List.nil_append, List.cons_append, Nat.reduceAdd])
  refine chn_is (stp_pure (by rfl) ?ybft3) ?rbft3
  case ybft3 =>
    intro w
    go_simp
    first | done | with_reducible rfl
  (try simp only [Act.put, List.setIfInBounds_toArray, List.set_cons_zero, List.set_cons_succ, List.nil_append, List.cons_append, Nat.reduceAdd])
  refine chn_is (stp_pure (by rfl) ?ybft4) ?rbft4
  case ybft4 =>
    intro w
    go_simp
    first | done | with_reducible rfl
  (try simp only [Act.put, List.setIfInBounds_toArray, List.set_cons_zero, List.set_cons_succ, List.nil_append, List.cons_append, Nat.reduceAdd])
  refine chn_kn ?sbft5 ?rbft5
  case sbft5 =>
    intro w hbw hd K Q' hK
    clear hd
    go_simp
    refine (isCount_any m _).mono ?_
    rw [HN.out]
    rintro e y ⟨rfl, rfl⟩
    go_wp2_with fail
    refine hK.out (.bool bn) _ _ ?_ ?_ rfl
    · (simp only [Act.put, List.setIfInBounds_toArray, List.set_cons_zero, List.set_cons_succ, List.nil_append, List.cons_append, Nat.reduceAdd])
    · exact (by repeat' (first | with_reducible exact Below.refl _ _ | with_reducible assumption | with_reducible apply Below.drew | with_reducible apply below_drewN | with_reducible apply Below.alloc | with_reducible apply Below.setCell | (with_reducible refine Below.trans ?_ (Below.mono (by assumption) ?_)) | (simp; done) | (simp; omega) | omega | with_reducible apply le_size_alloc | with_reducible apply le_size_drewN | with_reducible apply le_size_drew | with_reducible apply le_size_setCell | with_reducible refine Nat.le_trans ?_ (Below.size (by assumption))))
  (try simp only [Act.put, List.setIfInBounds_toArray, List.set_cons_zero, List.set_cons_succ, List.nil_append, List.cons_append, Nat.reduceAdd])
  refine chn_is (stp_pure (by rfl) ?ybft6) ?rbft6
  case ybft6 =>
    intro w
    go_simp
    first | done | with_reducible rfl
  (try simp only [Act.put, List.setIfInBounds_toArray, List.set_cons_zero, List.set_cons_succ, List.nil_append, List.cons_append, Nat.reduceAdd])
  refine chn_kn ?sbft7 ?rbft7
  case sbft7 =>
    intro w hbw hd K Q' hK
    clear hd
    go_simp
    refine (sound_any A1 A2 A3 c1 c2 c3 xs ys rs bn _ (HM.out.ext (hb1.trans (hbw.mono hb1.size)))).mono ?_
    rw [HZ.out]
    rintro e y ⟨rfl, hy⟩
    go_wp2_with fail
    refine hK.out (.int .i64 z) _ _ ?_ ?_ rfl
    · (simp only [Act.put, List.setIfInBounds_toArray, List.set_cons_zero, List.set_cons_succ, List.nil_append, List.cons_append, Nat.reduceAdd])
    · exact (by repeat' (first | with_reducible exact Below.refl _ _ | with_reducible assumption | with_reducible apply Below.drew | with_reducible apply below_drewN | with_reducible apply Below.alloc | with_reducible apply Below.setCell | (with_reducible refine Below.trans ?_ (Below.mono (by assumption) ?_)) | (simp; done) | (simp; omega) | omega | with_reducible apply le_size_alloc | with_reducible apply le_size_drewN | with_reducible apply le_size_drew | with_reducible apply le_size_setCell | with_reducible refine Nat.le_trans ?_ (Below.size (by assumption))))
  (try simp only [Act.put, List.setIfInBounds_toArray, List.set_cons_zero, List.set_cons_succ, List.nil_append, List.cons_append, Nat.reduceAdd])
  refine chn_is (stp_pure (by rfl) ?ybft8) ?rbft8
  case ybft8 =>
    intro w
    go_simp
    first | done | with_reducible rfl
  (try simp only [Act.put, List.setIfInBounds_toArray, List.set_cons_zero, List.set_cons_succ, List.nil_append, List.cons_append, Nat.reduceAdd])
  refine chn_end (fun wz lo hi hbz hd hR => ?_)
  have HB4 := Lib.hid (hb1.trans (hbz.mono hb1.size))
  have K1 := Lib.hid (kW.below_ hbz zW)
  have HX4 := Lib.hid (hb0.trans (hbz.mono hb0.size))
  clear hd hR p0 p1 p2 zW kW hb1 k1 hb0 hbz hz0 HBX
  refine late_none ?_
  obtain ⟨x4, rfl⟩ : ∃ x4 : World, x4 = wz := ⟨_, rfl⟩
  go_wp2_with fail
  refine bodyPost_ret (v := .tuple #[.slice none 0 0, .int .i64 z]) (by simp [results, Try.results25, go_sem]) rfl ?_
  exact ⟨rfl, HB4.out⟩

set_option maxRecDepth 100000 in
set_option maxHeartbeats 4000000 in
theorem Safe_badT (A1 A2 A3 : Option Addr) (c1 c2 c3 : Nat) (xs ys : List Int) (rs : List Bool) (T m : Int) (w : World) (h : InMem w A1 A2 A3 xs ys rs) (ht : tgtB T = false) {z : Int} (hz : sndS xs ys rs false = z) (h0 : z ≠ 0) :
    Calls Try.prog 25 #[.agg #[.slice A1 xs.length c1, .slice A2 ys.length c2, .slice A3 rs.length c3], .int .i64 T, .int .i64 m] w fun e w' => e = .returned (.tuple #[.slice none 0 0, .int .i64 z]) ∧ Below w.heap.size w w' := by
  have HM := Lib.hid h; have HT := Lib.hid ht; have HZ := Lib.hid hz
  have nz : (z != 0) = true := by simpa using h0
  clear h ht hz h0
  obtain ⟨X, hX⟩ : ∃ X, (w.alloc (.cells #[.slice A1 xs.length c1, .slice A2 ys.length c2, .slice A3 rs.length c3] 25)) = X := ⟨_, rfl⟩
  have k1 : Blk X w.heap.size 25 #[.slice A1 xs.length c1, .slice A2 ys.length c2, .slice A3 rs.length c3] := by rw [← hX]; exact Blk.new_ rfl rfl
  have HBX : Hid (Below w.heap.size w X) := by show Below _ _ _; rw [← hX]; exact (Below.refl _ _).alloc (Nat.le_refl _) _
  go_enter Try.func25, Try.ntmps25
  go_wp2_with fail
  (try rw [hX])
  clear hX
  refine wp_region_chain2 [1, 0, 1, 0, 0, 0, 0, 1, 0] [[], [], [], [], [], [], [], [], []] [.kn ?fbfn0, .is ?fbfn1, .kn (.bool false), .is ?fbfn3, .is undef, .is undef, .is ?fbfn6, .kn (.int .i64 z), .is ?fbfn8] (by rfl) (by rfl) (by kernel_rfl) (by kernel_rfl) (by kernel_rfl) (by kernel_rfl) (by kernel_rfl) (by kernel_rfl) (lts_kn (lts_is (lts_kn (lts_is (lts_is (lts_is (lts_is (lts_kn (lts_is lts_nil))))))))) (fun W0 hb0 hz0 => ?_)
  rotate_left 5
  rw [show lateIdx [1, 0, 1, 0, 0, 0, 0, 1, 0] = [] from by rfl]
  have hb1 := HBX.out.trans (hb0.mono HBX.out.size)
  have kW := k1.below_ hb0 k1.lt
  have zW := kW.lt
  have p0 : W0.cell? ⟨w.heap.size, 0, none⟩ = some (.slice A1 xs.length c1) := (kW.cell_ 0).trans (by simp)
  have p1 : W0.cell? ⟨w.heap.size, 1, none⟩ = some (.slice A2 ys.length c2) := (kW.cell_ 1).trans (by simp)
  have p2 : W0.cell? ⟨w.heap.size, 2, none⟩ = some (.slice A3 rs.length c3) := (kW.cell_ 2).trans (by simp)
  refine chn_kn (stp_take (by rfl) ?ybfn0) ?rbfn0
  case ybfn0 =>
    intro w hbw hd
    have r0 := cell_keep hbw p0 zW
    have r1 := cell_keep hbw p1 zW
    have r2 := cell_keep hbw p2 zW
    clear hd
    go_simp
    first | done | with_reducible rfl
  (try simp only [Act.put, List.setIfInBounds_toArray, List.set_cons_zero, List.set_cons_succ, List.nil_append, List.cons_append, Nat.reduceAdd])
  refine chn_is (stp_pure (by rfl) ?ybfn1) ?rbfn1
  case ybfn1 =>
    intro w
    go_simp
    first | done | with_reducible rfl
  (try simp only [Act.put, List.setIfInBounds_toArray, List.set_cons_zero, List.set_cons_succ, List.nil_append, List.cons_append, Nat.reduceAdd])
  refine chn_kn ?sbfn2 ?rbfn2
  case sbfn2 =>
    intro w hbw hd K Q' hK
    clear hd
    go_simp
    refine (isTarget_any T _).mono ?_
    rw [HT.out]
    rintro e y ⟨rfl, rfl⟩
    go_wp2_with fail
    refine hK.out (.bool false) _ _ ?_ ?_ rfl
    · (simp only [Act.put, List.setIfInBounds_toArray, List.set_cons_zero, List.set_cons_succ, List.nil_append, List.cons_append, Nat.reduceAdd])
    · exact (by repeat' (first | with_reducible exact Below.refl _ _ | with_reducible assumption | with_reducible apply Below.drew | with_reducible apply below_drewN | with_reducible apply Below.alloc | with_reducible apply Below.setCell | (with_reducible refine Below.trans ?_ (Below.mono (by assumption) ?_)) | (simp; done) | (simp; omega) | omega | with_reducible apply le_size_alloc | with_reducible apply le_size_drewN | with_reducible apply le_size_drew | with_reducible apply le_size_setCell | with_reducible refine Nat.le_trans ?_ (Below.size (by assumption))))
  (try simp only [Act.put, List.setIfInBounds_toArray, List.set_cons_zero, List.set_cons_succ, List.nil_append, List.cons_append, Nat.reduceAdd])
  refine chn_is (stp_pure (by rfl) ?ybfn3) ?rbfn3
  case ybfn3 =>
    intro w
    go_simp
    first | done | with_reducible rfl
  (try simp only [Act.put, List.setIfInBounds_toArray, List.set_cons_zero, List.set_cons_succ, List.nil_append, List.cons_append, Nat.reduceAdd])
  refine chn_is (stp_un (by rfl)) ?rbfn4
  (try simp only [Act.put, List.setIfInBounds_toArray, List.set_cons_zero, List.set_cons_succ, List.nil_append, List.cons_append, Nat.reduceAdd])
  refine chn_is (stp_un (by rfl)) ?rbfn5
  (try simp only [Act.put, List.setIfInBounds_toArray, List.set_cons_zero, List.set_cons_succ, List.nil_append, List.cons_append, Nat.reduceAdd])
  refine chn_is (stp_pure (by rfl) ?ybfn6) ?rbfn6
  case ybfn6 =>
    intro w
    go_simp
    first | done | with_reducible rfl
  (try simp only [Act.put, List.setIfInBounds_toArray, List.set_cons_zero, List.set_cons_succ, List.nil_append, List.cons_append, Nat.reduceAdd])
  refine chn_kn ?sbfn7 ?rbfn7
  case sbfn7 =>
    intro w hbw hd K Q' hK
    clear hd
    go_simp
    refine (sound_any A1 A2 A3 c1 c2 c3 xs ys rs false _ (HM.out.ext (hb1.trans (hbw.mono hb1.size)))).mono ?_
    rw [HZ.out]
    rintro e y ⟨rfl, hy⟩
    go_wp2_with fail
    refine hK.out (.int .i64 z) _ _ ?_ ?_ rfl
    · (simp only [Act.put, List.setIfInBounds_toArray, List.set_cons_zero, List.set_cons_succ, List.nil_append, List.cons_append, Nat.reduceAdd])
    · exact (by repeat' (first | with_reducible exact Below.refl _ _ | with_reducible assumption | with_reducible apply Below.drew | with_reducible apply below_drewN | with_reducible apply Below.alloc | with_reducible apply Below.setCell | (with_reducible refine Below.trans ?_ (Below.mono (by assumption) ?_)) | (simp; done) | (simp; omega) | omega | with_reducible apply le_size_alloc | with_reducible apply le_size_drewN | with_reducible apply le_size_drew | with_reducible apply le_size_setCell | with_reducible refine Nat.le_trans ?_ (Below.size (by assumption))))
  (try simp only [Act.put, List.setIfInBounds_toArray, List.set_cons_zero, List.set_cons_succ, List.nil_append, List.cons_append, Nat.reduceAdd])
  refine chn_is (stp_pure (by rfl) ?ybfn8) ?rbfn8
  case ybfn8 =>
    intro w
    go_simp
    first | done | with_reducible rfl
  (try simp only [Act.put, List.setIfInBounds_toArray, List.set_cons_zero, List.set_cons_succ, List.nil_append, List.cons_append, Nat.reduceAdd])
  refine chn_end (fun wz lo hi hbz hd hR => ?_)
  have HB4 := Lib.hid (hb1.trans (hbz.mono hb1.size))
  have K1 := Lib.hid (kW.below_ hbz zW)
  have HX4 := Lib.hid (hb0.trans (hbz.mono hb0.size))
  clear hd hR p0 p1 p2 zW kW hb1 k1 hb0 hbz hz0 HBX
  refine late_none ?_
  obtain ⟨x4, rfl⟩ : ∃ x4 : World, x4 = wz := ⟨_, rfl⟩
  go_wp2_with fail
  refine bodyPost_ret (v := .tuple #[.slice none 0 0, .int .i64 z]) (by simp [results, Try.results25, go_sem]) rfl ?_
  exact ⟨rfl, HB4.out⟩
end Go.Proofs.Ytiobbdfkimpfbaa
