/- Contracts of package scan: Step. Written by gen_sch.py. -/
import Derived.Test.YtiobbdfkimpfbaaScF
namespace Go.Proofs.Ytiobbdfkimpfbaa
open Go.RowKit Go.Maps

/-- A step's results. -/
structure SR where
  what : Int
  frame : Int
  xs : List Int
  ys : List Int
  rs : List Bool
  e : Int
def fullS (T : Int) (xs ys : List Int) (rs : List Bool) : SR :=
  if sndS xs ys rs (tgtB T) ≠ 0 then ⟨0, 0, [], [], [], sndS xs ys rs (tgtB T)⟩ else ⟨(stepS T xs ys rs).1, (stepS T xs ys rs).2.1, (stepS T xs ys rs).2.2.1, (stepS T xs ys rs).2.2.2.1, (stepS T xs ys rs).2.2.2.2, 0⟩
def SQ (R : SR) (w : World) (e : Ending) (w' : World) : Prop :=
  ∃ B1 B2 B3 d1 d2 d3, e = .returned (.tuple #[.agg #[.slice B1 R.xs.length d1, .slice B2 R.ys.length d2, .slice B3 R.rs.length d3], .int .i64 R.what, .int .i64 R.frame, .int .i64 R.e]) ∧ InMem w' B1 B2 B3 R.xs R.ys R.rs ∧ NewL w.heap.size B1 B2 B3 ∧ Below w.heap.size w w'
theorem snd_ok {xs ys : List Int} {rs : List Bool} {b : Bool} (h : sndS xs ys rs b = 0) : lruChk xs ys rs = 0 ∧ b = true := by
  unfold sndS at h
  by_cases h0 : lruChk xs ys rs = 0
  · rw [if_neg (by simpa using h0)] at h
    cases b
    · simp at h
    · exact ⟨h0, rfl⟩
  · rw [if_pos h0] at h; exact absurd h h0
theorem NewL.mono {a b : Nat} {A1 A2 A3 : Option Addr} (h : NewL a A1 A2 A3) (hb : b ≤ a) : NewL b A1 A2 A3 := ⟨fun g e => Nat.le_trans hb (h.a g e), fun g e => Nat.le_trans hb (h.i g e), fun g e => Nat.le_trans hb (h.r g e)⟩
theorem chk_len {xs ys : List Int} {rs : List Bool} (h : lruChk xs ys rs = 0) : xs.length ≤ 256 ∧ ys.length ≤ 256 ∧ rs.length ≤ 256 := by
  have hv := valid_of_chk h
  have := hv.len; have := hv.hi
  omega

theorem step_mem {w W : World} {B1 B2 B3 : Option Addr} {xs ys : List Int} {rs : List Bool} {a b c : Value} (h : InMem W B1 B2 B3 xs ys rs) (hn : NewL (w.heap.size + 2) B1 B2 B3) :
    InMem (((W.drew.setCell ⟨w.heap.size + 1, 0, none⟩ a).setCell ⟨w.heap.size + 1, 1, none⟩ b).setCell ⟨w.heap.size + 1, 2, none⟩ c) B1 B2 B3 xs ys rs :=
  (((h.ext (Below.refl _ _).drew).far_ hn (by omega) _ _).far_ hn (by omega) _ _).far_ hn (by omega) _ _
theorem step_below {w W : World} {a b c : Value} (h : Below w.heap.size w W) : Below w.heap.size w (((W.drew.setCell ⟨w.heap.size + 1, 0, none⟩ a).setCell ⟨w.heap.size + 1, 1, none⟩ b).setCell ⟨w.heap.size + 1, 2, none⟩ c) :=
  ((h.drew.setCell (p := ⟨w.heap.size + 1, 0, none⟩) (by simp) _).setCell (p := ⟨w.heap.size + 1, 1, none⟩) (by simp) _).setCell (p := ⟨w.heap.size + 1, 2, none⟩) (by simp) _

set_option maxRecDepth 100000 in
set_option maxHeartbeats 4000000 in
theorem Step_bad (A1 A2 A3 : Option Addr) (c1 c2 c3 : Nat) (xs ys : List Int) (rs : List Bool) (T : Int) (w : World) (h : InMem w A1 A2 A3 xs ys rs) {z : Int} (hz : sndS xs ys rs (tgtB T) = z) (h0 : z ≠ 0) :
    Calls Try.prog 13 #[.agg #[.slice A1 xs.length c1, .slice A2 ys.length c2, .slice A3 rs.length c3], .int .i64 T] w (SQ (fullS T xs ys rs) w) := by
  have HE : Hid (fullS T xs ys rs = ⟨0, 0, [], [], [], z⟩) := by show _ = _; unfold fullS; rw [hz, if_pos h0]
  rw [HE.out]
  have HM := Lib.hid h; have HZ := Lib.hid hz
  have nz : (z != 0) = true := by simpa using h0
  clear h hz h0
  obtain ⟨X, hX⟩ : ∃ X, (w.alloc (.cells #[.slice A1 xs.length c1, .slice A2 ys.length c2, .slice A3 rs.length c3] 25)).alloc (.cells #[.slice none 0 0, .slice none 0 0, .slice none 0 0] 25) = X := ⟨_, rfl⟩
  have k1 : Blk X w.heap.size 25 #[.slice A1 xs.length c1, .slice A2 ys.length c2, .slice A3 rs.length c3] := by rw [← hX]; exact (Blk.new_ rfl rfl).alloc_ _
  have k2 : Blk X (w.heap.size + 1) 25 #[.slice none 0 0, .slice none 0 0, .slice none 0 0] := by rw [← hX]; exact Blk.new_ (by simp) rfl
  have HBX : Hid (Below w.heap.size w X) := by show Below _ _ _; rw [← hX]; exact ((Below.refl _ _).alloc (Nat.le_refl _) _).alloc (by simp) _
  go_enter Try.func13, Try.ntmps13
  go_wp2_with fail
  (try rw [hX])
  clear hX
  refine wp_region_chain2 [1, 0, 1, 1, 0] [[], [], [], [], []] [.kn ?fan0, .is ?fan1, .kn (.bool (tgtB T)), .kn (.int .i64 z), .is ?fan4] (by rfl) (by rfl) (by kernel_rfl) (by kernel_rfl) (by kernel_rfl) (by kernel_rfl) (by kernel_rfl) (by kernel_rfl) (lts_kn (lts_is (lts_kn (lts_kn (lts_is lts_nil))))) (fun W0 hb0 hz0 => ?_)
  rotate_left 3
  rw [show lateIdx [1, 0, 1, 1, 0] = [] from by rfl]
  have hb1 := HBX.out.trans (hb0.mono HBX.out.size)
  have kW := k1.below_ hb0 k1.lt
  have zW := kW.lt
  have p0 : W0.cell? ⟨w.heap.size, 0, none⟩ = some (.slice A1 xs.length c1) := (kW.cell_ 0).trans (by simp)
  have p1 : W0.cell? ⟨w.heap.size, 1, none⟩ = some (.slice A2 ys.length c2) := (kW.cell_ 1).trans (by simp)
  have p2 : W0.cell? ⟨w.heap.size, 2, none⟩ = some (.slice A3 rs.length c3) := (kW.cell_ 2).trans (by simp)
  refine chn_kn (stp_take (by rfl) ?yan0) ?ran0
  case yan0 =>
    intro w hbw hd
    have r0 := cell_keep hbw p0 zW
    have r1 := cell_keep hbw p1 zW
    have r2 := cell_keep hbw p2 zW
    clear hd
    go_simp
    first | done | with_reducible rfl
  (try simp only [Act.put, List.setIfInBounds_toArray, List.set_cons_zero, List.set_cons_succ, List.nil_append, List.cons_append, Nat.reduceAdd])
  refine chn_is (stp_pure (by rfl) ?yan1) ?ran1
  case yan1 =>
    intro w
    go_simp
    first | done | with_reducible rfl
  (try simp only [Act.put, List.setIfInBounds_toArray, List.set_cons_zero, List.set_cons_succ, List.nil_append, List.cons_append, Nat.reduceAdd])
  refine chn_kn ?san2 ?ran2
  case san2 =>
    intro w hbw hd K Q' hK
    clear hd
    go_simp
    refine (isTarget_any T _).mono ?_
    rintro e y ⟨rfl, rfl⟩
    go_wp2_with fail
    refine hK.out (.bool (tgtB T)) _ _ ?_ ?_ rfl
    · (simp only [Act.put, List.setIfInBounds_toArray, List.set_cons_zero, List.set_cons_succ, List.nil_append, List.cons_append, Nat.reduceAdd])
    · exact (by repeat' (first | with_reducible exact Below.refl _ _ | with_reducible assumption | with_reducible apply Below.drew | with_reducible apply below_drewN | with_reducible apply Below.alloc | with_reducible apply Below.setCell | (with_reducible refine Below.trans ?_ (Below.mono (by assumption) ?_)) | (simp; done) | (simp; omega) | omega | with_reducible apply le_size_alloc | with_reducible apply le_size_drewN | with_reducible apply le_size_drew | with_reducible apply le_size_setCell | with_reducible refine Nat.le_trans ?_ (Below.size (by assumption))))
  (try simp only [Act.put, List.setIfInBounds_toArray, List.set_cons_zero, List.set_cons_succ, List.nil_append, List.cons_append, Nat.reduceAdd])
  refine chn_kn ?san3 ?ran3
  case san3 =>
    intro w hbw hd K Q' hK
    clear hd
    go_simp
    refine (sound_any A1 A2 A3 c1 c2 c3 xs ys rs (tgtB T) _ (HM.out.ext (hb1.trans (hbw.mono hb1.size)))).mono ?_
    rw [HZ.out]
    rintro e y ⟨rfl, hy⟩
    go_wp2_with fail
    refine hK.out (.int .i64 z) _ _ ?_ ?_ rfl
    · (simp only [Act.put, List.setIfInBounds_toArray, List.set_cons_zero, List.set_cons_succ, List.nil_append, List.cons_append, Nat.reduceAdd])
    · exact (by repeat' (first | with_reducible exact Below.refl _ _ | with_reducible assumption | with_reducible apply Below.drew | with_reducible apply below_drewN | with_reducible apply Below.alloc | with_reducible apply Below.setCell | (with_reducible refine Below.trans ?_ (Below.mono (by assumption) ?_)) | (simp; done) | (simp; omega) | omega | with_reducible apply le_size_alloc | with_reducible apply le_size_drewN | with_reducible apply le_size_drew | with_reducible apply le_size_setCell | with_reducible refine Nat.le_trans ?_ (Below.size (by assumption))))
  (try simp only [Act.put, List.setIfInBounds_toArray, List.set_cons_zero, List.set_cons_succ, List.nil_append, List.cons_append, Nat.reduceAdd])
  refine chn_is (stp_pure (by rfl) ?yan4) ?ran4
  case yan4 =>
    intro w
    go_simp
    first | done | with_reducible rfl
  (try simp only [Act.put, List.setIfInBounds_toArray, List.set_cons_zero, List.set_cons_succ, List.nil_append, List.cons_append, Nat.reduceAdd])
  refine chn_end (fun wz lo hi hbz hd hR => ?_)
  have HB4 := Lib.hid (hb1.trans (hbz.mono hb1.size))
  have K1 := Lib.hid (kW.below_ hbz zW)
  have K2 := Lib.hid ((k2.below_ hb0 k2.lt).below_ hbz (by have := k2.lt; have := hb0.size; omega))
  clear hd hR p0 p1 p2 zW kW hb1 k1 k2 hb0 hbz hz0 HBX
  refine late_none ?_
  obtain ⟨x4, rfl⟩ : ∃ x4 : World, x4 = wz := ⟨_, rfl⟩
  have y0 : x4.cell? ⟨w.heap.size + 1, 0, none⟩ = some (.slice none 0 0) := (K2.out.cell_ 0).trans (by simp)
  have y1 : x4.cell? ⟨w.heap.size + 1, 1, none⟩ = some (.slice none 0 0) := (K2.out.cell_ 1).trans (by simp)
  have y2 : x4.cell? ⟨w.heap.size + 1, 2, none⟩ = some (.slice none 0 0) := (K2.out.cell_ 2).trans (by simp)
  have g0 := K2.out.frozen_ 0
  have g1 := K2.out.frozen_ 1
  have g2 := K2.out.frozen_ 2
  go_wp2_with fail
  refine bodyPost_ret (v := .tuple #[.agg #[.slice none 0 0, .slice none 0 0, .slice none 0 0], .int .i64 0, .int .i64 0, .int .i64 z]) (by simp [results, Try.results13, go_sem, y0, y1, y2]) rfl ?_
  exact ⟨none, none, none, 0, 0, 0, rfl, inMem_none _, NewL.none_ _, ((HB4.out.setCell (p := ⟨w.heap.size + 1, 0, none⟩) (by simp) _).setCell (p := ⟨w.heap.size + 1, 1, none⟩) (by simp) _).setCell (p := ⟨w.heap.size + 1, 2, none⟩) (by simp) _⟩

set_option maxRecDepth 100000 in
set_option maxHeartbeats 4000000 in
theorem Step_ok (A1 A2 A3 : Option Addr) (c1 c2 c3 : Nat) (xs ys : List Int) (rs : List Bool) (T : Int) (w : World) (h : InMem w A1 A2 A3 xs ys rs) (hz : sndS xs ys rs (tgtB T) = 0) :
    Calls Try.prog 13 #[.agg #[.slice A1 xs.length c1, .slice A2 ys.length c2, .slice A3 rs.length c3], .int .i64 T] w (SQ (fullS T xs ys rs) w) := by
  obtain ⟨⟨R1, R2, R3, R4, R5⟩, hR_⟩ : ∃ R, stepS T xs ys rs = R := ⟨_, rfl⟩
  have HE : Hid (fullS T xs ys rs = ⟨R1, R2, R3, R4, R5, 0⟩) := by show _ = _; unfold fullS; rw [hz, if_neg (by simp), hR_]
  rw [HE.out]
  have HC := Lib.hid (snd_ok hz).1
  have HRR := Lib.hid hR_
  have HM := Lib.hid h; have HZ := Lib.hid hz
  clear h hz hR_
  obtain ⟨z, hz⟩ : ∃ z : Int, z = 0 := ⟨_, rfl⟩
  rw [← hz] at HZ
  have HZ0 := Lib.hid hz
  clear hz
  obtain ⟨X, hX⟩ : ∃ X, (w.alloc (.cells #[.slice A1 xs.length c1, .slice A2 ys.length c2, .slice A3 rs.length c3] 25)).alloc (.cells #[.slice none 0 0, .slice none 0 0, .slice none 0 0] 25) = X := ⟨_, rfl⟩
  have k1 : Blk X w.heap.size 25 #[.slice A1 xs.length c1, .slice A2 ys.length c2, .slice A3 rs.length c3] := by rw [← hX]; exact (Blk.new_ rfl rfl).alloc_ _
  have k2 : Blk X (w.heap.size + 1) 25 #[.slice none 0 0, .slice none 0 0, .slice none 0 0] := by rw [← hX]; exact Blk.new_ (by simp) rfl
  have HBX : Hid (Below w.heap.size w X) := by show Below _ _ _; rw [← hX]; exact ((Below.refl _ _).alloc (Nat.le_refl _) _).alloc (by simp) _
  go_enter Try.func13, Try.ntmps13
  go_wp2_with fail
  (try rw [hX])
  clear hX
  refine wp_region_chain2 [1, 0, 1, 1, 0] [[], [], [], [], []] [.kn ?fan0, .is ?fan1, .kn (.bool (tgtB T)), .kn (.int .i64 z), .is ?fan4] (by rfl) (by rfl) (by kernel_rfl) (by kernel_rfl) (by kernel_rfl) (by kernel_rfl) (by kernel_rfl) (by kernel_rfl) (lts_kn (lts_is (lts_kn (lts_kn (lts_is lts_nil))))) (fun W0 hb0 hz0 => ?_)
  rotate_left 3
  rw [show lateIdx [1, 0, 1, 1, 0] = [] from by rfl]
  have hb1 := HBX.out.trans (hb0.mono HBX.out.size)
  have kW := k1.below_ hb0 k1.lt
  have zW := kW.lt
  have p0 : W0.cell? ⟨w.heap.size, 0, none⟩ = some (.slice A1 xs.length c1) := (kW.cell_ 0).trans (by simp)
  have p1 : W0.cell? ⟨w.heap.size, 1, none⟩ = some (.slice A2 ys.length c2) := (kW.cell_ 1).trans (by simp)
  have p2 : W0.cell? ⟨w.heap.size, 2, none⟩ = some (.slice A3 rs.length c3) := (kW.cell_ 2).trans (by simp)
  refine chn_kn (stp_take (by rfl) ?yan0) ?ran0
  case yan0 =>
    intro w hbw hd
    have r0 := cell_keep hbw p0 zW
    have r1 := cell_keep hbw p1 zW
    have r2 := cell_keep hbw p2 zW
    clear hd
    go_simp
    first | done | with_reducible rfl
  (try simp only [Act.put, List.setIfInBounds_toArray, List.set_cons_zero, List.set_cons_succ, List.nil_append, List.cons_append, Nat.reduceAdd])
  refine chn_is (stp_pure (by rfl) ?yan1) ?ran1
  case yan1 =>
    intro w
    go_simp
    first | done | with_reducible rfl
  (try simp only [Act.put, List.setIfInBounds_toArray, List.set_cons_zero, List.set_cons_succ, List.nil_append, List.cons_append, Nat.reduceAdd])
  refine chn_kn ?san2 ?ran2
  case san2 =>
    intro w hbw hd K Q' hK
    clear hd
    go_simp
    refine (isTarget_any T _).mono ?_
    rintro e y ⟨rfl, rfl⟩
    go_wp2_with fail
    refine hK.out (.bool (tgtB T)) _ _ ?_ ?_ rfl
    · (simp only [Act.put, List.setIfInBounds_toArray, List.set_cons_zero, List.set_cons_succ, List.nil_append, List.cons_append, Nat.reduceAdd])
    · exact (by repeat' (first | with_reducible exact Below.refl _ _ | with_reducible assumption | with_reducible apply Below.drew | with_reducible apply below_drewN | with_reducible apply Below.alloc | with_reducible apply Below.setCell | (with_reducible refine Below.trans ?_ (Below.mono (by assumption) ?_)) | (simp; done) | (simp; omega) | omega | with_reducible apply le_size_alloc | with_reducible apply le_size_drewN | with_reducible apply le_size_drew | with_reducible apply le_size_setCell | with_reducible refine Nat.le_trans ?_ (Below.size (by assumption))))
  (try simp only [Act.put, List.setIfInBounds_toArray, List.set_cons_zero, List.set_cons_succ, List.nil_append, List.cons_append, Nat.reduceAdd])
  refine chn_kn ?san3 ?ran3
  case san3 =>
    intro w hbw hd K Q' hK
    clear hd
    go_simp
    refine (sound_any A1 A2 A3 c1 c2 c3 xs ys rs (tgtB T) _ (HM.out.ext (hb1.trans (hbw.mono hb1.size)))).mono ?_
    rw [HZ.out]
    rintro e y ⟨rfl, hy⟩
    go_wp2_with fail
    refine hK.out (.int .i64 z) _ _ ?_ ?_ rfl
    · (simp only [Act.put, List.setIfInBounds_toArray, List.set_cons_zero, List.set_cons_succ, List.nil_append, List.cons_append, Nat.reduceAdd])
    · exact (by repeat' (first | with_reducible exact Below.refl _ _ | with_reducible assumption | with_reducible apply Below.drew | with_reducible apply below_drewN | with_reducible apply Below.alloc | with_reducible apply Below.setCell | (with_reducible refine Below.trans ?_ (Below.mono (by assumption) ?_)) | (simp; done) | (simp; omega) | omega | with_reducible apply le_size_alloc | with_reducible apply le_size_drewN | with_reducible apply le_size_drew | with_reducible apply le_size_setCell | with_reducible refine Nat.le_trans ?_ (Below.size (by assumption))))
  (try simp only [Act.put, List.setIfInBounds_toArray, List.set_cons_zero, List.set_cons_succ, List.nil_append, List.cons_append, Nat.reduceAdd])
  refine chn_is (stp_pure (by rfl) ?yan4) ?ran4
  case yan4 =>
    intro w
    go_simp
    first | done | with_reducible rfl
  (try simp only [Act.put, List.setIfInBounds_toArray, List.set_cons_zero, List.set_cons_succ, List.nil_append, List.cons_append, Nat.reduceAdd])
  refine chn_end (fun wz lo hi hbz hd hR => ?_)
  have HB4 := Lib.hid (hb1.trans (hbz.mono hb1.size))
  have K1 := Lib.hid (kW.below_ hbz zW)
  have K2 := Lib.hid ((k2.below_ hb0 k2.lt).below_ hbz (by have := k2.lt; have := hb0.size; omega))
  clear hd hR p0 p1 p2 zW kW hb1 k1 k2 hb0 hbz hz0 HBX
  refine late_none ?_
  obtain ⟨x4, rfl⟩ : ∃ x4 : World, x4 = wz := ⟨_, rfl⟩
  have hz := HZ0.out
  subst hz
  have kl2 := K2.out.lt
  have q0 : x4.cell? ⟨w.heap.size, 0, none⟩ = some (.slice A1 xs.length c1) := (K1.out.cell_ 0).trans (by simp)
  have q1 : x4.cell? ⟨w.heap.size, 1, none⟩ = some (.slice A2 ys.length c2) := (K1.out.cell_ 1).trans (by simp)
  have q2 : x4.cell? ⟨w.heap.size, 2, none⟩ = some (.slice A3 rs.length c3) := (K1.out.cell_ 2).trans (by simp)
  go_wp2_with fail
  refine (twin_any A1 A2 A3 c1 c2 c3 xs ys rs _ (HM.out.ext HB4.out) (by have := chk_len HC.out; omega) (by have := chk_len HC.out; omega) (by have := chk_len HC.out; omega)).mono ?_
  rintro e x6 ⟨D1, D2, D3, f1, f2, f3, rfl, hm6, hn6, hb6⟩
  have HM6 := Lib.hid hm6; have HN6 := Lib.hid hn6
  have z46 := hb6.size
  have K26 := Lib.hid (K2.out.below_ hb6 kl2)
  have HB6 := Lib.hid (HB4.out.trans (hb6.mono HB4.out.size))
  clear q0 q1 q2 hm6 hn6 hb6 K1 K2 HB4
  go_wp2_with fail
  have kl6 := K26.out.lt
  obtain ⟨V, hV⟩ : ∃ V, x6.alloc (.cells #[.slice D1 xs.length f1, .slice D2 ys.length f2, .slice D3 rs.length f3, .int .i64 T, .int .i64 0, .int .u64 0, .int .u64 0, .int .u64 0, .int .u64 0] 66) = V := ⟨_, rfl⟩
  have hbV : Below x6.heap.size x6 V := by rw [← hV]; exact (Below.refl _ _).alloc (Nat.le_refl _) _
  have KV : WK V x6.heap.size D1 D2 D3 f1 f2 f3 xs ys rs T 0 [] := by
    refine ⟨?_, HM6.out.ext hbV, HM6.out.neZ fun k e => by omega⟩
    rw [← hV]
    exact Blk.new_ rfl rfl
  (try rw [hV])
  refine (step_any x6.heap.size D1 D2 D3 f1 f2 f3 xs ys rs T 0 [] V KV HC.out).mono ?_
  rw [HRR.out]
  rintro e x7 ⟨rfl, B1, B2, B3, d1, d2, d3, k7, n7, a7⟩
  dsimp only at k7 ⊢
  have zV := hbV.size
  have HB7 : Hid (Below w.heap.size w x7) := (HB6.out.trans (hbV.mono HB6.out.size)).trans (a7.below (Nat.le_trans HB6.out.size zV) fun k hk e => by have := HB6.out.size; omega)
  have K27 : Blk x7 (w.heap.size + 1) 25 #[.slice none 0 0, .slice none 0 0, .slice none 0 0] := a7.blk (K26.out.below_ hbV kl6) (by omega)
  have hkl := K27.lt
  have HN7 : Hid (NewL (w.heap.size + 2) B1 B2 B3) := by
    have h1 : w.heap.size + 2 ≤ x4.heap.size := by omega
    rcases n7 with ⟨rfl, rfl, rfl, _⟩ | n7
    · exact HN6.out.mono h1
    · exact n7.mono (by omega)
  have hb7 := k7.blk.lt
  clear a7 n7 KV hbV
  have p0 : x7.cell? ⟨x6.heap.size, 0, none⟩ = some (.slice B1 R3.length d1) := (k7.blk.cell_ 0).trans (by simp)
  have p1 : x7.cell? ⟨x6.heap.size, 1, none⟩ = some (.slice B2 R4.length d2) := (k7.blk.cell_ 1).trans (by simp)
  have p2 : x7.cell? ⟨x6.heap.size, 2, none⟩ = some (.slice B3 R5.length d3) := (k7.blk.cell_ 2).trans (by simp)
  have p4 : x7.cell? ⟨x6.heap.size, 4, none⟩ = some (.int .i64 R2) := (k7.blk.cell_ 4).trans (by simp)
  have y0 : x7.cell? ⟨w.heap.size + 1, 0, none⟩ = some (.slice none 0 0) := (K27.cell_ 0).trans (by simp)
  have y1 : x7.cell? ⟨w.heap.size + 1, 1, none⟩ = some (.slice none 0 0) := (K27.cell_ 1).trans (by simp)
  have y2 : x7.cell? ⟨w.heap.size + 1, 2, none⟩ = some (.slice none 0 0) := (K27.cell_ 2).trans (by simp)
  have g0 := K27.frozen_ 0
  have g1 := K27.frozen_ 1
  have g2 := K27.frozen_ 2
  have nbb : x6.heap.size ≠ w.heap.size + 1 := by omega
  have nbc : w.heap.size + 1 ≠ x6.heap.size := by omega
  have HMZ := Lib.hid k7.mem
  clear k7
  go_wp2_with fail
  go_region
  all_goals
    go_wp2_with fail
    refine bodyPost_ret (v := .tuple #[.agg #[.slice B1 R3.length d1, .slice B2 R4.length d2, .slice B3 R5.length d3], .int .i64 R1, .int .i64 R2, .int .i64 0]) (by simp [results, Try.results13, go_sem, y0, y1, y2]) rfl ?_
    refine ⟨B1, B2, B3, d1, d2, d3, rfl, ?_, HN7.out.mono (by omega), ?_⟩
    · exact step_mem HMZ.out HN7.out
    · exact step_below HB7.out
theorem Step_any (A1 A2 A3 : Option Addr) (c1 c2 c3 : Nat) (xs ys : List Int) (rs : List Bool) (T : Int) (w : World) (h : InMem w A1 A2 A3 xs ys rs) :
    Calls Try.prog 13 #[.agg #[.slice A1 xs.length c1, .slice A2 ys.length c2, .slice A3 rs.length c3], .int .i64 T] w (SQ (fullS T xs ys rs) w) := by
  by_cases h0 : sndS xs ys rs (tgtB T) = 0
  · exact Step_ok A1 A2 A3 c1 c2 c3 xs ys rs T w h h0
  · exact Step_bad A1 A2 A3 c1 c2 c3 xs ys rs T w h rfl h0
end Go.Proofs.Ytiobbdfkimpfbaa
