/- scan.First. Written by gen_scn.py. -/
import Derived.Test.YtiobbdfkimpfbaaScM
namespace Go.Proofs.Ytiobbdfkimpfbaa
open Go.RowKit Go.Maps
open Go.Shelf
attribute [local go_sem] Oper.semAt_some

/-- The first victim, how many steps come ahead of it, the error. -/
def fstP : List EvP → Int → Int × Int × Int
  | [], _ => (0, 0, 6)
  | e :: t, k => if e.what = 3 then (e.f, k, 0) else fstP t (k + 1)
theorem fstP_none : ∀ (l : List EvP) (k : Int), (∀ e ∈ l, e.what ≠ 3) → fstP l k = (0, 0, 6)
  | [], _, _ => rfl
  | e :: t, k, h => by
    unfold fstP
    rw [if_neg (h e (by simp)), fstP_none t _ fun x hx => h x (by simp [hx])]
theorem fstP_hit : ∀ (l pre : List EvP) (x : EvP) (k : Int), pre ++ [x] <+: l → (∀ e ∈ pre, e.what ≠ 3) → x.what = 3 → fstP l k = (x.f, k + pre.length, 0)
  | [], pre, x, k, h, _, _ => by simp at h
  | e :: t, [], x, k, h, _, hx => by
    rw [List.nil_append, List.cons_prefix_cons] at h
    obtain ⟨rfl, _⟩ := h
    unfold fstP
    rw [if_pos hx]
    simp
  | e :: t, p :: pre, x, k, h, hp, hx => by
    rw [List.cons_append, List.cons_prefix_cons] at h
    obtain ⟨rfl, h⟩ := h
    unfold fstP
    rw [if_neg (hp _ (by simp)), fstP_hit t pre x _ h (fun y hy => hp y (by simp [hy])) hx]
    simp
    omega
def firS (T : Int) (xs ys : List Int) (rs : List Bool) : Int × Int × Int := if sndS xs ys rs (tgtB T) ≠ 0 then (0, 0, sndS xs ys rs (tgtB T)) else fstP (full T xs ys rs []) 0
def FPost (R : Int × Int × Int) (w : World) (e : Ending) (w' : World) : Prop := e = .returned (.tuple #[.int .i64 R.1, .int .i64 R.2.1, .int .i64 R.2.2]) ∧ Below w.heap.size w w'
/-- What lies in the variables of First. -/
def FV (B : Nat) (f n z : Int) (W : World) : Prop := Blk W (B + 1) 3 #[.int .i64 f] ∧ Blk W (B + 1 + 1) 3 #[.int .i64 n] ∧ Blk W (B + 1 + 1 + 1) 29 #[.int .i64 z]
theorem FV.aside {B : Nat} {f n z : Int} {W W' : World} {Z : Nat → Prop} (h : FV B f n z W) (ha : Aside Z W W') (h1 : ¬ Z (B + 1)) (h2 : ¬ Z (B + 1 + 1)) (h3 : ¬ Z (B + 1 + 1 + 1)) : FV B f n z W' := ⟨ha.blk h.1 h1, ha.blk h.2.1 h2, ha.blk h.2.2 h3⟩
theorem FV.below {B : Nat} {f n z : Int} {W W' : World} (h : FV B f n z W) (hb : Below W.heap.size W W') : FV B f n z W' := ⟨h.1.below_ hb h.1.lt, h.2.1.below_ hb h.2.1.lt, h.2.2.below_ hb h.2.2.lt⟩
theorem fv_put0 {B : Nat} {V : World} {a n z : Int} (h : FV B a n z V) (a' n' z' : Int) (U : World) (hU : ((V.setCell ⟨B + 1, 0, none⟩ (.int .i64 a')).setCell ⟨B + 1 + 1, 0, none⟩ (.int .i64 n')).setCell ⟨B + 1 + 1 + 1, 0, none⟩ (.int .i64 z') = U) :
    FV B a' n' z' U ∧ KeepsOthers V U ∧ V.heap.size ≤ U.heap.size ∧ ∀ w, Below B w V → Below B w U := by
  subst hU
  refine ⟨⟨?_, ?_, ?_⟩, ((KeepsOthers.setCell V _ _).trans (KeepsOthers.setCell _ _ _)).trans (KeepsOthers.setCell _ _ _), by simp [World.setCell], fun w hw => ((hw.setCell (p := ⟨B + 1, 0, none⟩) (show B ≤ B + 1 by omega) _).setCell (p := ⟨B + 1 + 1, 0, none⟩) (show B ≤ B + 1 + 1 by omega) _).setCell (p := ⟨B + 1 + 1 + 1, 0, none⟩) (show B ≤ B + 1 + 1 + 1 by omega) _⟩
  · refine Blk.far_ (p := ⟨B + 1 + 1 + 1, 0, none⟩) (Blk.far_ (p := ⟨B + 1 + 1, 0, none⟩) ?_ (by show B + 1 ≠ B + 1 + 1; omega) _) (by show B + 1 ≠ B + 1 + 1 + 1; omega) _
    simpa using h.1.set_ 0 (.int .i64 a')
  · refine Blk.far_ (p := ⟨B + 1 + 1 + 1, 0, none⟩) ?_ (by show B + 1 + 1 ≠ B + 1 + 1 + 1; omega) _
    simpa using (h.2.1.far_ (p := ⟨B + 1, 0, none⟩) (by show B + 1 + 1 ≠ B + 1; omega) (.int .i64 a')).set_ 0 (.int .i64 n')
  · simpa using ((h.2.2.far_ (p := ⟨B + 1, 0, none⟩) (by show B + 1 + 1 + 1 ≠ B + 1; omega) (.int .i64 a')).far_ (p := ⟨B + 1 + 1, 0, none⟩) (by show B + 1 + 1 + 1 ≠ B + 1 + 1; omega) (.int .i64 n')).set_ 0 (.int .i64 z')
theorem fv_put {B : Nat} {V : World} {a n z : Int} (h : FV B a n z V) (a' n' z' : Int) (U : World) (hU : (((V.setCell ⟨B + 1, 0, none⟩ (.int .i64 a')).setCell ⟨B + 1 + 1, 0, none⟩ (.int .i64 n')).setCell ⟨B + 1 + 1 + 1, 0, none⟩ (.int .i64 z')).drew = U) :
    FV B a' n' z' U ∧ KeepsOthers V U ∧ V.heap.size ≤ U.heap.size ∧ ∀ w, Below B w V → Below B w U := by
  subst hU
  obtain ⟨h1, h2, h3, h4⟩ := fv_put0 h a' n' z' _ rfl
  exact ⟨⟨h1.1.drew_, h1.2.1.drew_, h1.2.2.drew_⟩, h2.trans (KeepsOthers.drew _), h3, fun w hw => (h4 w hw).drew⟩

set_option maxRecDepth 100000 in
set_option maxHeartbeats 4000000 in
/-- Behind the last return. -/
theorem first_end {f nn z : Int} {w V : World} {n D : Nat} {R : Int × Int × Int} {ts : Array Value} (hv : FV w.heap.size f nn z V) (hb : Below w.heap.size w V) (hD : w.heap.size + 4 ≤ D) (hK : V.heap[D]? = some (.deferred (some []))) (hR : R = (f, nn, z))
    (h4 : ts[4]? = some (.pointer (some ⟨w.heap.size + 1, 0, none⟩))) (h5 : ts[5]? = some (.pointer (some ⟨w.heap.size + 1 + 1, 0, none⟩))) (h6 : ts[6]? = some (.pointer (some ⟨w.heap.size + 1 + 1 + 1, 0, none⟩))) :
    LeavesInM Fence.wide n Try.prog Try.f21 ts (FPost R w) [{ target := .collected D, args := #[] }] .returning V := by
  subst hR
  have kU : FV w.heap.size f nn z (V.putObj D (.deferred none)) := ⟨(World.putObj_heap_other (by omega)).trans hv.1, (World.putObj_heap_other (by omega)).trans hv.2.1, (World.putObj_heap_other (by omega)).trans hv.2.2⟩
  have bU : Below w.heap.size w (V.putObj D (.deferred none)) := hb.trans (belowK_b (w := w) (Nat.le_refl _) V D _ _ (by omega) hK rfl rfl)
  have p0 := kU.1.cell_ 0
  have p3 := kU.2.1.cell_ 0
  have p4 := kU.2.2.cell_ 0
  simp at p0 p3 p4
  refine ⟨by simp, .inl ⟨_, _, rfl, run_takeDeferred hK, ?_⟩⟩
  refine ⟨.tuple #[.int .i64 f, .int .i64 nn, .int .i64 z], ?_, rfl, bU⟩
  simp [results, Try.results21, go_sem, h4, h5, h6, p0, p3, p4]

set_option maxRecDepth 100000 in
set_option maxHeartbeats 4000000 in
theorem First_bad (A1 A2 A3 : Option Addr) (c1 c2 c3 : Nat) (xs ys : List Int) (rs : List Bool) (T : Int) (w : World) (h : InMem w A1 A2 A3 xs ys rs) {z : Int} (hz : sndS xs ys rs (tgtB T) = z) (h0 : z ≠ 0) :
    Calls Try.prog 21 #[.agg #[.slice A1 xs.length c1, .slice A2 ys.length c2, .slice A3 rs.length c3], .int .i64 T] w (FPost (firS T xs ys rs) w) := by
  have HE : Hid (firS T xs ys rs = (0, 0, z)) := by show _ = _; unfold firS; rw [hz, if_pos h0]
  rw [HE.out]
  have HM := Lib.hid h; have HZ := Lib.hid hz
  have nz : (z != 0) = true := by simpa using h0
  clear h hz h0
  obtain ⟨X, hX⟩ : ∃ X, (((w.alloc (.cells #[.slice A1 xs.length c1, .slice A2 ys.length c2, .slice A3 rs.length c3] 25)).alloc (.cells #[.int .i64 0] 3)).alloc (.cells #[.int .i64 0] 3)).alloc (.cells #[.int .i64 0] 29) = X := ⟨_, rfl⟩
  have k1 : Blk X w.heap.size 25 #[.slice A1 xs.length c1, .slice A2 ys.length c2, .slice A3 rs.length c3] := by rw [← hX]; exact (((Blk.new_ rfl rfl).alloc_ _).alloc_ _).alloc_ _
  have HFV : Hid (FV w.heap.size 0 0 0 X) := by
    show FV _ _ _ _ _
    rw [← hX]
    exact ⟨((Blk.new_ (by simp) rfl).alloc_ _).alloc_ _, (Blk.new_ (by simp) rfl).alloc_ _, Blk.new_ (by simp) rfl⟩
  have HBX : Hid (Below w.heap.size w X) := by show Below _ _ _; rw [← hX]; exact (((Below.refl _ _).alloc (Nat.le_refl _) _).alloc (by simp) _).alloc (by simp; omega) _ |>.alloc (by simp; omega) _
  go_enter Try.func21, Try.ntmps21
  go_wp2_with fail
  (try rw [hX])
  clear hX
  refine wp_region_chain2 [1, 0, 1, 1, 0] [[], [], [], [], []] [.kn ?fan0, .is ?fan1, .kn (.bool (tgtB T)), .kn (.int .i64 z), .is ?fan4] (by rfl) (by rfl) (by kernel_rfl) (by kernel_rfl) (by kernel_rfl) (by kernel_rfl) (by kernel_rfl) (by kernel_rfl) (lts_kn (lts_is (lts_kn (lts_kn (lts_is lts_nil))))) (fun W0 hb0 hz0 => ?_)
  rotate_left 3
  rw [show lateIdx [1, 0, 1, 1, 0] = [] from by rfl]
  have hb1 := HBX.out.trans (hb0.mono HBX.out.size)
  have kW := k1.below_ hb0 k1.lt
  have zW := kW.lt
  have p0 : W0.cell? ⟨w.heap.size, 0, none⟩ = some (.slice A1 xs.length c1) := (kW.cell_ 0).trans (by simp)
  have p1 : W0.cell? ⟨w.heap.size, 1, none⟩ = some (.slice A2 ys.length c2) := (kW.cell_ 1).trans (by simp)
  have p2 : W0.cell? ⟨w.heap.size, 2, none⟩ = some (.slice A3 rs.length c3) := (kW.cell_ 2).trans (by simp)
  refine chn_kn (stp_take (by rfl) ?yan0) ?ran0
  case yan0 =>
    intro w hbw hd
    have r0 := cell_keep hbw p0 zW
    have r1 := cell_keep hbw p1 zW
    have r2 := cell_keep hbw p2 zW
    clear hd
    go_simp
    first | done | with_reducible rfl
  (try simp only [Act.put, List.setIfInBounds_toArray, List.set_cons_zero, List.set_cons_succ, List.nil_append, List.cons_append, Nat.reduceAdd])
  refine chn_is (stp_pure (by rfl) ?yan1) ?ran1
  case yan1 =>
    intro w
    go_simp
    first | done | with_reducible rfl
  (try simp only [Act.put, List.setIfInBounds_toArray, List.set_cons_zero, List.set_cons_succ, List.nil_append, List.cons_append, Nat.reduceAdd])
  refine chn_kn ?san2 ?ran2
  case san2 =>
    intro w hbw hd K Q' hK
    clear hd
    go_simp
    refine (isTarget_any T _).mono ?_
    rintro e y ⟨rfl, rfl⟩
    go_wp2_with fail
    refine hK.out (.bool (tgtB T)) _ _ ?_ ?_ rfl
    · (simp only [Act.put, List.setIfInBounds_toArray, List.set_cons_zero, List.set_cons_succ, List.nil_append, List.cons_append, Nat.reduceAdd])
    · exact (by repeat' (first | with_reducible exact Below.refl _ _ | with_reducible assumption | with_reducible apply Below.drew | with_reducible apply below_drewN | with_reducible apply Below.alloc | with_reducible apply Below.setCell | (with_reducible refine Below.trans ?_ (Below.mono (by assumption) ?_)) | (simp; done) | (simp; omega) | omega | with_reducible apply le_size_alloc | with_reducible apply le_size_drewN | with_reducible apply le_size_drew | with_reducible apply le_size_setCell | with_reducible refine Nat.le_trans ?_ (Below.size (by assumption))))
  (try simp only [Act.put, List.setIfInBounds_toArray, List.set_cons_zero, List.set_cons_succ, List.nil_append, List.cons_append, Nat.reduceAdd])
  refine chn_kn ?san3 ?ran3
  case san3 =>
    intro w hbw hd K Q' hK
    clear hd
    go_simp
    refine (sound_any A1 A2 A3 c1 c2 c3 xs ys rs (tgtB T) _ (HM.out.ext (hb1.trans (hbw.mono hb1.size)))).mono ?_
    rw [HZ.out]
    rintro e y ⟨rfl, hy⟩
    go_wp2_with fail
    refine hK.out (.int .i64 z) _ _ ?_ ?_ rfl
    · (simp only [Act.put, List.setIfInBounds_toArray, List.set_cons_zero, List.set_cons_succ, List.nil_append, List.cons_append, Nat.reduceAdd])
    · exact (by repeat' (first | with_reducible exact Below.refl _ _ | with_reducible assumption | with_reducible apply Below.drew | with_reducible apply below_drewN | with_reducible apply Below.alloc | with_reducible apply Below.setCell | (with_reducible refine Below.trans ?_ (Below.mono (by assumption) ?_)) | (simp; done) | (simp; omega) | omega | with_reducible apply le_size_alloc | with_reducible apply le_size_drewN | with_reducible apply le_size_drew | with_reducible apply le_size_setCell | with_reducible refine Nat.le_trans ?_ (Below.size (by assumption))))
  (try simp only [Act.put, List.setIfInBounds_toArray, List.set_cons_zero, List.set_cons_succ, List.nil_append, List.cons_append, Nat.reduceAdd])
  refine chn_is (stp_pure (by rfl) ?yan4) ?ran4
  case yan4 =>
    intro w
    go_simp
    first | done | with_reducible rfl
  (try simp only [Act.put, List.setIfInBounds_toArray, List.set_cons_zero, List.set_cons_succ, List.nil_append, List.cons_append, Nat.reduceAdd])
  refine chn_end (fun wz lo hi hbz hd hR => ?_)
  have HB4 := Lib.hid (hb1.trans (hbz.mono hb1.size))
  have K1 := Lib.hid (kW.below_ hbz zW)
  have HX4 := Lib.hid (hb0.trans (hbz.mono hb0.size))
  clear hd hR p0 p1 p2 zW kW hb1 k1 hb0 hbz hz0 HBX
  refine late_none ?_
  obtain ⟨x4, rfl⟩ : ∃ x4 : World, x4 = wz := ⟨_, rfl⟩
  have HV4 := Lib.hid (HFV.out.below HX4.out)
  have p4 : x4.cell? ⟨w.heap.size + 1, 0, none⟩ = some (.int .i64 0) := (HV4.out.1.cell_ 0).trans (by simp)
  have p5 : x4.cell? ⟨w.heap.size + 1 + 1, 0, none⟩ = some (.int .i64 0) := (HV4.out.2.1.cell_ 0).trans (by simp)
  have p6 : x4.cell? ⟨w.heap.size + 1 + 1 + 1, 0, none⟩ = some (.int .i64 0) := (HV4.out.2.2.cell_ 0).trans (by simp)
  have g4 := HV4.out.1.frozen_ 0
  have g5 := HV4.out.2.1.frozen_ 0
  have g6 := HV4.out.2.2.frozen_ 0
  go_wp2_with fail
  obtain ⟨U, hU⟩ : ∃ U, ((x4.setCell ⟨w.heap.size + 1, 0, none⟩ (.int .i64 0)).setCell ⟨w.heap.size + 1 + 1, 0, none⟩ (.int .i64 0)).setCell ⟨w.heap.size + 1 + 1 + 1, 0, none⟩ (.int .i64 z) = U := ⟨_, rfl⟩
  obtain ⟨hu, _, _, hb⟩ := fv_put0 HV4.out _ _ _ U hU
  have BU := hb w HB4.out
  (try rw [hU])
  clear hU p4 p5 p6 g4 g5 g6
  have u4 : U.cell? ⟨w.heap.size + 1, 0, none⟩ = some (.int .i64 0) := (hu.1.cell_ 0).trans (by simp)
  have u5 : U.cell? ⟨w.heap.size + 1 + 1, 0, none⟩ = some (.int .i64 0) := (hu.2.1.cell_ 0).trans (by simp)
  have u6 : U.cell? ⟨w.heap.size + 1 + 1 + 1, 0, none⟩ = some (.int .i64 z) := (hu.2.2.cell_ 0).trans (by simp)
  have v4 := hu.1.frozen_ 0
  have v5 := hu.2.1.frozen_ 0
  have v6 := hu.2.2.frozen_ 0
  refine bodyPost_ret (v := .tuple #[.int .i64 0, .int .i64 0, .int .i64 z]) (by simp [results, Try.results21, go_sem, u4, u5, u6]) rfl ?_
  exact ⟨rfl, BU⟩

set_option maxRecDepth 100000 in
set_option maxHeartbeats 4000000 in
theorem First_in (n : Nat) (hn : 6 ≤ n) (A1 A2 A3 : Option Addr) (c1 c2 c3 : Nat) (xs ys : List Int) (rs : List Bool) (T : Int) (w : World) (h : InMem w A1 A2 A3 xs ys rs) (hz : sndS xs ys rs (tgtB T) = 0) :
    CallsIn Fence.wide n Try.prog 21 #[.agg #[.slice A1 xs.length c1, .slice A2 ys.length c2, .slice A3 rs.length c3], .int .i64 T] w (FPost (firS T xs ys rs) w) := by
  have HE : Hid (firS T xs ys rs = fstP (full T xs ys rs []) 0) := by show _ = _; unfold firS; rw [hz, if_neg (by simp)]
  rw [HE.out]
  have HC := Lib.hid (snd_ok hz).1
  have HFL := Lib.hid (full_len (T := T) (mv := []) (snd_ok hz).1)
  have HM := Lib.hid h; have HZ := Lib.hid hz
  clear h hz
  obtain ⟨z, hz⟩ : ∃ z : Int, z = 0 := ⟨_, rfl⟩
  rw [← hz] at HZ
  have HZ0 := Lib.hid hz
  clear hz
  have h1 : 1 ≤ n := by omega
  obtain ⟨X, hX⟩ : ∃ X, (((w.alloc (.cells #[.slice A1 xs.length c1, .slice A2 ys.length c2, .slice A3 rs.length c3] 25)).alloc (.cells #[.int .i64 0] 3)).alloc (.cells #[.int .i64 0] 3)).alloc (.cells #[.int .i64 0] 29) = X := ⟨_, rfl⟩
  have k1 : Blk X w.heap.size 25 #[.slice A1 xs.length c1, .slice A2 ys.length c2, .slice A3 rs.length c3] := by rw [← hX]; exact (((Blk.new_ rfl rfl).alloc_ _).alloc_ _).alloc_ _
  have HFV : Hid (FV w.heap.size 0 0 0 X) := by
    show FV _ _ _ _ _
    rw [← hX]
    exact ⟨((Blk.new_ (by simp) rfl).alloc_ _).alloc_ _, (Blk.new_ (by simp) rfl).alloc_ _, Blk.new_ (by simp) rfl⟩
  have HBX : Hid (Below w.heap.size w X) := by show Below _ _ _; rw [← hX]; exact (((Below.refl _ _).alloc (Nat.le_refl _) _).alloc (by simp) _).alloc (by simp; omega) _ |>.alloc (by simp; omega) _
  refine callsIn_of_wp_marks Try.func21 rfl trivial ?_ rfl
  simp only [Try.ntmps21, List.size_toArray, List.length_cons, List.length_nil, Nat.reduceAdd, Nat.reduceSub, Array.replicate_succ, Array.replicate_zero, List.push_toArray, List.append_toArray, List.nil_append, List.cons_append]
  gi_wp2_with fail
  (try rw [hX])
  clear hX
  refine wpIn_region_chain2 (.inl rfl) (by omega) (by kernel_rfl) [1, 0, 1, 1, 0] [[], [], [], [], []] [.kn ?fan0, .is ?fan1, .kn (.bool (tgtB T)), .kn (.int .i64 z), .is ?fan4] (by rfl) (by rfl) (by kernel_rfl) (by kernel_rfl) (by kernel_rfl) (by kernel_rfl) (by kernel_rfl) (by kernel_rfl) (lts_kn (lts_is (lts_kn (lts_kn (lts_is lts_nil))))) (fun W0 hb0 hz0 => ?_)
  rotate_left 3
  rw [show lateIdx [1, 0, 1, 1, 0] = [] from by rfl]
  have hb1 := HBX.out.trans (hb0.mono HBX.out.size)
  have kW := k1.below_ hb0 k1.lt
  have zW := kW.lt
  have p0 : W0.cell? ⟨w.heap.size, 0, none⟩ = some (.slice A1 xs.length c1) := (kW.cell_ 0).trans (by simp)
  have p1 : W0.cell? ⟨w.heap.size, 1, none⟩ = some (.slice A2 ys.length c2) := (kW.cell_ 1).trans (by simp)
  have p2 : W0.cell? ⟨w.heap.size, 2, none⟩ = some (.slice A3 rs.length c3) := (kW.cell_ 2).trans (by simp)
  refine chn_kn (stp_take (by rfl) ?yan0) ?ran0
  case yan0 =>
    intro w hbw hd
    have r0 := cell_keep hbw p0 zW
    have r1 := cell_keep hbw p1 zW
    have r2 := cell_keep hbw p2 zW
    clear hd
    go_simp
    first | done | with_reducible rfl
  (try simp only [Act.put, List.setIfInBounds_toArray, List.set_cons_zero, List.set_cons_succ, List.nil_append, List.cons_append, Nat.reduceAdd])
  refine chn_is (stp_pure (by rfl) ?yan1) ?ran1
  case yan1 =>
    intro w
    go_simp
    first | done | with_reducible rfl
  (try simp only [Act.put, List.setIfInBounds_toArray, List.set_cons_zero, List.set_cons_succ, List.nil_append, List.cons_append, Nat.reduceAdd])
  refine chn_kn ?san2 ?ran2
  case san2 =>
    intro w hbw hd K Q' hK
    clear hd
    go_simp
    refine (isTarget_any T _).mono ?_
    rintro e y ⟨rfl, rfl⟩
    go_wp2_with fail
    refine hK.out (.bool (tgtB T)) _ _ ?_ ?_ rfl
    · (simp only [Act.put, List.setIfInBounds_toArray, List.set_cons_zero, List.set_cons_succ, List.nil_append, List.cons_append, Nat.reduceAdd])
    · exact (by repeat' (first | with_reducible exact Below.refl _ _ | with_reducible assumption | with_reducible apply Below.drew | with_reducible apply below_drewN | with_reducible apply Below.alloc | with_reducible apply Below.setCell | (with_reducible refine Below.trans ?_ (Below.mono (by assumption) ?_)) | (simp; done) | (simp; omega) | omega | with_reducible apply le_size_alloc | with_reducible apply le_size_drewN | with_reducible apply le_size_drew | with_reducible apply le_size_setCell | with_reducible refine Nat.le_trans ?_ (Below.size (by assumption))))
  (try simp only [Act.put, List.setIfInBounds_toArray, List.set_cons_zero, List.set_cons_succ, List.nil_append, List.cons_append, Nat.reduceAdd])
  refine chn_kn ?san3 ?ran3
  case san3 =>
    intro w hbw hd K Q' hK
    clear hd
    go_simp
    refine (sound_any A1 A2 A3 c1 c2 c3 xs ys rs (tgtB T) _ (HM.out.ext (hb1.trans (hbw.mono hb1.size)))).mono ?_
    rw [HZ.out]
    rintro e y ⟨rfl, hy⟩
    go_wp2_with fail
    refine hK.out (.int .i64 z) _ _ ?_ ?_ rfl
    · (simp only [Act.put, List.setIfInBounds_toArray, List.set_cons_zero, List.set_cons_succ, List.nil_append, List.cons_append, Nat.reduceAdd])
    · exact (by repeat' (first | with_reducible exact Below.refl _ _ | with_reducible assumption | with_reducible apply Below.drew | with_reducible apply below_drewN | with_reducible apply Below.alloc | with_reducible apply Below.setCell | (with_reducible refine Below.trans ?_ (Below.mono (by assumption) ?_)) | (simp; done) | (simp; omega) | omega | with_reducible apply le_size_alloc | with_reducible apply le_size_drewN | with_reducible apply le_size_drew | with_reducible apply le_size_setCell | with_reducible refine Nat.le_trans ?_ (Below.size (by assumption))))
  (try simp only [Act.put, List.setIfInBounds_toArray, List.set_cons_zero, List.set_cons_succ, List.nil_append, List.cons_append, Nat.reduceAdd])
  refine chn_is (stp_pure (by rfl) ?yan4) ?ran4
  case yan4 =>
    intro w
    go_simp
    first | done | with_reducible rfl
  (try simp only [Act.put, List.setIfInBounds_toArray, List.set_cons_zero, List.set_cons_succ, List.nil_append, List.cons_append, Nat.reduceAdd])
  refine chn_end (fun wz lo hi hbz hd hR => ?_)
  have HB4 := Lib.hid (hb1.trans (hbz.mono hb1.size))
  have K1 := Lib.hid (kW.below_ hbz zW)
  have HX4 := Lib.hid (hb0.trans (hbz.mono hb0.size))
  clear hd hR p0 p1 p2 zW kW hb1 k1 hb0 hbz hz0 HBX
  refine late_none ?_
  obtain ⟨x4, rfl⟩ : ∃ x4 : World, x4 = wz := ⟨_, rfl⟩
  have hz := HZ0.out
  subst hz
  have HV4 := Lib.hid (HFV.out.below HX4.out)
  have kl1 := K1.out.lt
  have q0 : x4.cell? ⟨w.heap.size, 0, none⟩ = some (.slice A1 xs.length c1) := (K1.out.cell_ 0).trans (by simp)
  have q1 : x4.cell? ⟨w.heap.size, 1, none⟩ = some (.slice A2 ys.length c2) := (K1.out.cell_ 1).trans (by simp)
  have q2 : x4.cell? ⟨w.heap.size, 2, none⟩ = some (.slice A3 rs.length c3) := (K1.out.cell_ 2).trans (by simp)
  gi_wp2_with fail
  obtain ⟨X, rfl⟩ : ∃ X : World, X = x4 := ⟨_, rfl⟩
  refine ⟨trivial, (callsIn_wide.2 (sweep_any A1 A2 A3 xs.length ys.length rs.length c1 c2 c3 T X)).mono ?_⟩
  rintro e W ⟨rfl, hW⟩
  have sW : W.heap.size = X.heap.size + 2 := by rw [hW]; simp
  have bW : Below X.heap.size X W := by rw [hW]; exact ((Below.refl _ _).alloc (Nat.le_refl _) _).alloc (by simp) _
  have kl : Blk W X.heap.size 25 #[.slice A1 xs.length c1, .slice A2 ys.length c2, .slice A3 rs.length c3] := by rw [hW]; exact (Blk.new_ rfl rfl).alloc_ _
  have kt : Blk W (X.heap.size + 1) 3 #[.int .i64 T] := by rw [hW]; exact Blk.new_ (by simp) rfl
  have BW := Lib.hid (HB4.out.trans (bW.mono HB4.out.size))
  have MW : InMem W A1 A2 A3 xs ys rs := HM.out.ext BW.out
  have VW := HV4.out.below bW
  have zx : w.heap.size + 4 ≤ X.heap.size := by have := HV4.out.2.2.lt; omega
  have HSW := Lib.hid sW
  clear hW bW sW q0 q1 q2
  gi_wp2_with fail
  have sW := HSW.out
  have nn : ∀ k (G : Nat → Prop) s, k < W.heap.size → ¬ ¬ (Theirs W.heap.size (fun _ => False) G k ∨ EvH s k) := fun k G s h1 hn => hn (.inl (.inr ⟨h1, fun h => h⟩))
  refine wpIn_rangeH rfl h1 (gf := 75) (lb := #[.pointer (some ⟨X.heap.size, 0, none⟩), .pointer (some ⟨X.heap.size + 1, 0, none⟩)]) rfl trivial (enters_of Try.func75 (by kernel_rfl) rfl)
    (sweep1_in Fence.wide (n - 1) trivial rfl (by omega) rfl X.heap.size (X.heap.size + 1) A1 A2 A3 c1 c2 c3 xs ys rs T (fun b => b = w.heap.size + 1 ∨ b = w.heap.size + 1 + 1 ∨ b = w.heap.size + 1 + 1 + 1) W MW HC.out kl kt (fun b hb => by omega))
    (fun _ => rfl) (fun b hb => hb.elim) (fun x V1 V2 hm hs ha => ⟨hm.1.aside ha (hm.2.1.sub fun k hk => by omega), hm.2⟩)
    (fun pre G V => FV w.heap.size 0 pre.length 0 V ∧ Below w.heap.size w V ∧ ∀ x ∈ pre, x.what ≠ 3)
    (fun c pre G V => c = .ret ∧ ∃ pre' x, pre = pre' ++ [x] ∧ x.what = 3 ∧ (∀ y ∈ pre', y.what ≠ 3) ∧ FV w.heap.size x.f pre'.length 0 V ∧ Below w.heap.size w V)
    (fun pre G V1 V2 ⟨h1, h2, h3⟩ hs ha => ⟨h1.aside ha (nn _ G pre (by omega)) (nn _ G pre (by omega)) (nn _ G pre (by omega)), h2.trans (ha.below (by omega) (fun k hk => nn k G pre (by omega))), h3⟩)
    (fun c pre G V1 V2 ⟨hc, pre', x, h0, h1, h2, h3, h4⟩ hs ha => ⟨hc, pre', x, h0, h1, h2, h3.aside ha (nn _ G pre (by omega)) (nn _ G pre (by omega)) (nn _ G pre (by omega)), h4.trans (ha.below (by omega) (fun k hk => nn k G pre (by omega)))⟩)
    (fun _ _ _ _ h _ => h) (fun _ _ _ _ _ h _ => h)
    evH_nil evH_snoc (fun x V b hm hb => by have := EV.mem_lo hm hb; omega)
    ⟨VW, BW.out, fun x hx => by cases hx⟩
    (fun x a' V => ∃ B8, W.heap.size + 2 ≤ B8 ∧ Blk V B8 82 #[.int .i64 x.what, .int .i64 x.f, .slice x.A1 x.xs.length x.c1, .slice x.A2 x.ys.length x.c2, .slice x.A3 x.rs.length x.c3, .int .i64 T, .int .i64 x.f, .int .u64 (wrd 0 x.mv), .int .u64 (wrd 1 x.mv), .int .u64 (wrd 2 x.mv), .int .u64 (wrd 3 x.mv)] ∧ a' = { tmps := #[.agg #[.slice A1 xs.length c1, .slice A2 ys.length c2, .slice A3 rs.length c3], .int .i64 T, .pointer (some ⟨w.heap.size, 0, none⟩), undef, .pointer (some ⟨w.heap.size + 1, 0, none⟩), .pointer (some ⟨w.heap.size + 1 + 1, 0, none⟩), .pointer (some ⟨w.heap.size + 1 + 1 + 1, 0, none⟩), .int .i64 0, .pointer (some ⟨B8, 0, none⟩), .agg #[.slice A1 xs.length c1, .slice A2 ys.length c2, .slice A3 rs.length c3], .int .i64 T, .bool (tgtB T), .int .i64 0, .int .i64 0, .bool false, undef, .agg #[.slice A1 xs.length c1, .slice A2 ys.length c2, .slice A3 rs.length c3], .int .i64 T, .func (.func 75) #[] #[.pointer (some ⟨X.heap.size, 0, none⟩), .pointer (some ⟨X.heap.size + 1, 0, none⟩)], .agg #[.int .i64 x.what, .int .i64 x.f, .slice x.A1 x.xs.length x.c1, .slice x.A2 x.ys.length x.c2, .slice x.A3 x.rs.length x.c3, .int .i64 T, .int .i64 x.f, .int .u64 (wrd 0 x.mv), .int .u64 (wrd 1 x.mv), .int .u64 (wrd 2 x.mv), .int .u64 (wrd 3 x.mv)], undef, undef, undef, undef, undef, undef, undef, undef], defers := [] })
    (fun x a' V1 V2 ⟨B8, h1, h2, h3⟩ hs ha => ⟨B8, h1, ha.blk h2 (by omega), h3⟩)
    (fun x V1 V2 hm hb => ⟨hm.1.ext hb, hm.2⟩) ?assign ?body ?done ?stop
  case assign =>
    intro lp x V K hV hK
    clear sW
    simp only [EV.enc]
    gi_wp2
    exact hK _ _ ⟨V.heap.size, hV, Blk.new_ rfl rfl, rfl⟩ ((Below.refl _ _).alloc (Nat.le_refl _) _)
  case body =>
    rintro lp pre x G V a' ⟨hv, hb, hp⟩ hm ⟨B8, hB8, k8, rfl⟩ hlen hsz hG _
    have e0 : V.cell? ⟨B8, 0, none⟩ = some (.int .i64 x.what) := (k8.cell_ 0).trans (by simp)
    have e1 : V.cell? ⟨B8, 1, none⟩ = some (.int .i64 x.f) := (k8.cell_ 1).trans (by simp)
    have hpl : (pre.length : Int) ≤ 2000 := by have := HFL.out; omega
    have nb8 : B8 ≠ w.heap.size + 1 := by omega
    have nb9 : B8 ≠ w.heap.size + 1 + 1 := by omega
    have nb10 : B8 ≠ w.heap.size + 1 + 1 + 1 := by omega
    have p4 : V.cell? ⟨w.heap.size + 1, 0, none⟩ = some (.int .i64 0) := (hv.1.cell_ 0).trans (by simp)
    have p5 : V.cell? ⟨w.heap.size + 1 + 1, 0, none⟩ = some (.int .i64 pre.length) := (hv.2.1.cell_ 0).trans (by simp)
    have p6 : V.cell? ⟨w.heap.size + 1 + 1 + 1, 0, none⟩ = some (.int .i64 0) := (hv.2.2.cell_ 0).trans (by simp)
    have g4 := hv.1.frozen_ 0
    have g5 := hv.2.1.frozen_ 0
    have g6 := hv.2.2.frozen_ 0
    have HV := Lib.hid hv; have HB := Lib.hid hb; have HP := Lib.hid hp
    clear hv hb hp k8 hm sW hG
    by_cases h3 : x.what = 3
    · have h3b : (x.what == 3) = true := by simpa using h3
      have HH3 := Lib.hid h3
      clear h3
      gi_wp2
      refine wpIn_region_held_drew (.inr ⟨lp, rfl⟩) (by omega) (by kernel_rfl) (by rintro ⟨_, _, hh⟩; exact hh) (S := (fun U => U.cell? ⟨B8, 1, none⟩ = some (.int .i64 x.f) ∧ U.cell? ⟨w.heap.size + 1 + 1, 0, none⟩ = some (.int .i64 pre.length))) (by kernel_rfl) ?_ (fun hHeld => ?_)
      · (exact ⟨e1, p5⟩)
      refine wpAnyH_take (i := 0) (oi := ?orn1) (v := ?vrn1) ?hrn1 (by kernel_rfl) (by kernel_rfl) (by kernel_rfl) ?qrn1 ?yrn1 (by assumption) ?rrn1
      case hrn1 => (simp only [List.getElem?_toArray, List.getElem?_cons_succ, List.getElem?_cons_zero]; rfl)
      case qrn1 => exact fun _ _ _ h => h
      case yrn1 => (refine Or.inl ⟨by rfl, ?_⟩; intro w hSw; (try dsimp only at hSw); go_simp; first | done | with_reducible rfl)
      (try simp only [Act.put, List.setIfInBounds_toArray, List.set_cons_zero, List.set_cons_succ])
      refine wpAnyH_take (i := 1) (oi := ?orn2) (v := ?vrn2) ?hrn2 (by kernel_rfl) (by kernel_rfl) (by kernel_rfl) ?qrn2 ?yrn2 (by assumption) ?rrn2
      case hrn2 => (simp only [List.getElem?_toArray, List.getElem?_cons_succ, List.getElem?_cons_zero]; rfl)
      case qrn2 => exact fun _ _ _ h => h
      case yrn2 => (refine Or.inl ⟨by rfl, ?_⟩; intro w hSw; (try dsimp only at hSw); go_simp; first | done | with_reducible rfl)
      (try simp only [Act.put, List.setIfInBounds_toArray, List.set_cons_zero, List.set_cons_succ])
      refine wpAnyH_take (i := 2) (oi := ?orn3) (v := ?vrn3) ?hrn3 (by kernel_rfl) (by kernel_rfl) (by kernel_rfl) ?qrn3 ?yrn3 (by assumption) ?rrn3
      case hrn3 => (simp only [List.getElem?_toArray, List.getElem?_cons_succ, List.getElem?_cons_zero]; rfl)
      case qrn3 => exact fun _ _ _ h => h
      case yrn3 => (refine Or.inl ⟨by rfl, ?_⟩; intro w hSw; (try dsimp only at hSw); go_simp; first | done | with_reducible rfl)
      (try simp only [Act.put, List.setIfInBounds_toArray, List.set_cons_zero, List.set_cons_succ])
      refine wpAnyH_ready (rs := [3]) (by kernel_rfl) (by simp) ?_
      refine AllReadyH.cons (o := ?orn4) ?hrn4 (fun K hK => ?srn4) AllReadyH.nil
      case hrn4 => (simp only [List.getElem?_toArray, List.getElem?_cons_succ, List.getElem?_cons_zero]; rfl)
      go_simp
      refine hK.out _ _ ?_ (fun hHeld => ?_)
      · (simp [go_sem, e1, p4, p5, p6, nb8, nb9, nb10])
      clear hK K
      (try simp only [Act.put, List.setIfInBounds_toArray, List.set_cons_zero, List.set_cons_succ])
      refine wpAnyH_ready (rs := [4]) (by kernel_rfl) (by simp) ?_
      refine AllReadyH.cons (o := ?orn5) ?hrn5 (fun K hK => ?srn5) AllReadyH.nil
      case hrn5 => (simp only [List.getElem?_toArray, List.getElem?_cons_succ, List.getElem?_cons_zero]; rfl)
      go_simp
      refine hK.out _ _ ?_ (fun hHeld => ?_)
      · (simp [go_sem, e1, p4, p5, p6, nb8, nb9, nb10])
      clear hK K
      (try simp only [Act.put, List.setIfInBounds_toArray, List.set_cons_zero, List.set_cons_succ])
      refine wpAnyH_ready (rs := [5]) (by kernel_rfl) (by simp) ?_
      refine AllReadyH.cons (o := ?orn6) ?hrn6 (fun K hK => ?srn6) AllReadyH.nil
      case hrn6 => (simp only [List.getElem?_toArray, List.getElem?_cons_succ, List.getElem?_cons_zero]; rfl)
      go_simp
      refine hK.out _ _ ?_ (fun hHeld => ?_)
      · (simp [go_sem, e1, p4, p5, p6, nb8, nb9, nb10])
      clear hK K
      (try simp only [Act.put, List.setIfInBounds_toArray, List.set_cons_zero, List.set_cons_succ])
      refine wpAnyH_done (by kernel_rfl) ?_ _
      obtain ⟨U, hU⟩ : ∃ U, (((V.setCell ⟨w.heap.size + 1, 0, none⟩ (.int .i64 x.f)).setCell ⟨w.heap.size + 1 + 1, 0, none⟩ (.int .i64 pre.length)).setCell ⟨w.heap.size + 1 + 1 + 1, 0, none⟩ (.int .i64 0)).drew = U := ⟨_, rfl⟩
      have HU := Lib.hid (fv_put HV.out _ _ _ U hU)
      (try rw [hU])
      clear hU
      gi_wp2
      exact ⟨HU.out.2.1.from _, HU.out.2.2.1, rfl, pre, x, rfl, HH3.out, HP.out, HU.out.1, HU.out.2.2.2 _ HB.out⟩
    · have h3b : (x.what == 3) = false := by simpa using h3
      have HH3 := Lib.hid h3
      clear h3
      gi_wp2
      refine ⟨(KeepsOthers.setCell V _ _).from _, (Aside.refl _ V).setCell (p := ⟨w.heap.size + 1 + 1, 0, none⟩) (.inr (.inr (.inr (.inl rfl)))) _, ⟨?_, ?_, ?_⟩, HB.out.setCell (p := ⟨w.heap.size + 1 + 1, 0, none⟩) (show w.heap.size ≤ w.heap.size + 1 + 1 by omega) _, ?_⟩
      · exact HV.out.1.far_ (p := ⟨w.heap.size + 1 + 1, 0, none⟩) (by show w.heap.size + 1 ≠ w.heap.size + 1 + 1; omega) _
      · simpa using HV.out.2.1.set_ 0 (.int .i64 ((pre.length : Int) + 1))
      · exact HV.out.2.2.far_ (p := ⟨w.heap.size + 1 + 1, 0, none⟩) (by show w.heap.size + 1 + 1 + 1 ≠ w.heap.size + 1 + 1; omega) _
      · intro y hy
        rcases List.mem_append.1 hy with hy | hy
        · exact HP.out y hy
        · obtain rfl : y = x := by simpa using hy
          exact HH3.out
  case done =>
    rintro es G V hS ⟨hv, hb, hp⟩ hsz hK
    have HR : Hid (fstP (full T xs ys rs []) 0 = (0, 0, 6)) := by
      show _ = _
      rw [← hS]
      refine fstP_none _ _ fun e he => ?_
      obtain ⟨y, hy, rfl⟩ := List.mem_map.1 he
      exact hp y hy
    have p4 : V.cell? ⟨w.heap.size + 1, 0, none⟩ = some (.int .i64 0) := (hv.1.cell_ 0).trans (by simp)
    have p5 : V.cell? ⟨w.heap.size + 1 + 1, 0, none⟩ = some (.int .i64 es.length) := (hv.2.1.cell_ 0).trans (by simp)
    have p6 : V.cell? ⟨w.heap.size + 1 + 1 + 1, 0, none⟩ = some (.int .i64 0) := (hv.2.2.cell_ 0).trans (by simp)
    have g4 := hv.1.frozen_ 0
    have g5 := hv.2.1.frozen_ 0
    have g6 := hv.2.2.frozen_ 0
    have HV := Lib.hid hv; have HB := Lib.hid hb; have HK := Lib.hid hK
    clear hv hb hp hK sW hS
    gi_wp2
    obtain ⟨U, hU⟩ : ∃ U, ((V.setCell ⟨w.heap.size + 1, 0, none⟩ (.int .i64 0)).setCell ⟨w.heap.size + 1 + 1, 0, none⟩ (.int .i64 0)).setCell ⟨w.heap.size + 1 + 1 + 1, 0, none⟩ (.int .i64 6) = U := ⟨_, rfl⟩
    have hU2 := hU
    obtain ⟨hu, _, _, hb⟩ := fv_put0 HV.out _ _ _ U hU
    have sW := HSW.out
    have hKU : U.heap[W.heap.size]? = some (.deferred (some [])) := by
      rw [← hU2, Below.heap_setCell _ _ _ _ (by show W.heap.size ≠ w.heap.size + 1 + 1 + 1; omega), Below.heap_setCell _ _ _ _ (by show W.heap.size ≠ w.heap.size + 1 + 1; omega), Below.heap_setCell _ _ _ _ (by show W.heap.size ≠ w.heap.size + 1; omega)]
      exact HK.out
    (try rw [hU])
    show LeavesInM _ _ _ _ _ _ _ _ _
    refine first_end (R := fstP (full T xs ys rs []) 0) hu (hb w HB.out) (by omega) hKU HR.out ?_ ?_ ?_
    · rfl
    · rfl
    · rfl
  case stop =>
    rintro c pre G V hSp ⟨rfl, pre', x, rfl, hx, hp, hv, hb⟩ hsz hK
    have HR : Hid (fstP (full T xs ys rs []) 0 = (x.f, (pre'.length : Int), 0)) := by
      show _ = _
      rw [List.map_append] at hSp
      have := fstP_hit _ (pre'.map EV.pl) x.pl 0 hSp (fun e he => by obtain ⟨y, hy, rfl⟩ := List.mem_map.1 he; exact hp y hy) hx
      rw [this]
      simp [EV.pl]
    have sW := HSW.out
    have HSW' := Lib.hid (show w.heap.size + 4 ≤ W.heap.size by omega)
    clear sW hSp hp hx
    gi_wp2
    show LeavesInM _ _ _ _ _ _ _ _ _
    exact first_end (R := fstP (full T xs ys rs []) 0) hv hb HSW'.out hK HR.out rfl rfl rfl

theorem First_any (A1 A2 A3 : Option Addr) (c1 c2 c3 : Nat) (xs ys : List Int) (rs : List Bool) (T : Int) (w : World) (h : InMem w A1 A2 A3 xs ys rs) :
    Calls Try.prog 21 #[.agg #[.slice A1 xs.length c1, .slice A2 ys.length c2, .slice A3 rs.length c3], .int .i64 T] w (FPost (firS T xs ys rs) w) := by
  by_cases h0 : sndS xs ys rs (tgtB T) = 0
  · exact callsIn_wide.1 (First_in 6 (Nat.le_refl _) A1 A2 A3 c1 c2 c3 xs ys rs T w h h0)
  · exact First_bad A1 A2 A3 c1 c2 c3 xs ys rs T w h rfl h0
end Go.Proofs.Ytiobbdfkimpfbaa
