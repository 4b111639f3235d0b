/- scan.Victims. Written by gen_scm.py. -/
import Derived.Test.YtiobbdfkimpfbaaScL
namespace Go.Proofs.Ytiobbdfkimpfbaa
open Go.RowKit Go.Maps
open Go.Shelf
attribute [local go_sem] Oper.semAt_some

theorem Sl.ext_put {α : Type} {w : World} {mk : α → Value} {A : Option Addr} {xs : List α} (h : Sl w mk A xs) {D : Nat} {o o' : Obj} (hD : w.heap[D]? = some o) (ho : o.isCells = false := by rfl) : Sl (w.putObj D o') mk A xs := fun hn => by
  obtain ⟨b, off, e, hb, hc⟩ := h hn
  have hne : b ≠ D := fun e => by
    subst e
    have h0 := hc 0 _ (List.getElem?_eq_getElem hn)
    unfold World.cell? at h0
    rw [hD] at h0
    cases o <;> simp_all [Obj.isCells]
  refine ⟨b, off, e, by simpa using hb, fun j x hx => ?_⟩
  have := hc j x hx
  unfold World.cell? at this ⊢
  rw [World.putObj_heap_other hne]
  exact this

set_option maxRecDepth 100000 in
set_option maxHeartbeats 4000000 in
theorem Victims_bad (A1 A2 A3 : Option Addr) (c1 c2 c3 : Nat) (xs ys : List Int) (rs : List Bool) (T : Int) (w : World) (h : InMem w A1 A2 A3 xs ys rs) {z : Int} (hz : sndS xs ys rs (tgtB T) = z) (h0 : z ≠ 0) :
    Calls Try.prog 23 #[.agg #[.slice A1 xs.length c1, .slice A2 ys.length c2, .slice A3 rs.length c3], .int .i64 T] w (VPost (vicS T xs ys rs) w) := by
  have HE : Hid (vicS T xs ys rs = ([], z)) := by show _ = _; unfold vicS; rw [hz, if_pos h0]
  rw [HE.out]
  have HM := Lib.hid h; have HZ := Lib.hid hz
  have nz : (z != 0) = true := by simpa using h0
  clear h hz h0
  obtain ⟨X, hX⟩ : ∃ X, w.alloc (.cells #[.slice A1 xs.length c1, .slice A2 ys.length c2, .slice A3 rs.length c3] 25) = X := ⟨_, rfl⟩
  have k1 : Blk X w.heap.size 25 #[.slice A1 xs.length c1, .slice A2 ys.length c2, .slice A3 rs.length c3] := by rw [← hX]; exact Blk.new_ rfl rfl
  have HBX : Hid (Below w.heap.size w X) := by show Below _ _ _; rw [← hX]; exact (Below.refl _ _).alloc (Nat.le_refl _) _
  go_enter Try.func23, Try.ntmps23
  go_wp2_with fail
  (try rw [hX])
  clear hX
  refine wp_region_chain2 [1, 0, 1, 1, 0] [[], [], [], [], []] [.kn ?fan0, .is ?fan1, .kn (.bool (tgtB T)), .kn (.int .i64 z), .is ?fan4] (by rfl) (by rfl) (by kernel_rfl) (by kernel_rfl) (by kernel_rfl) (by kernel_rfl) (by kernel_rfl) (by kernel_rfl) (lts_kn (lts_is (lts_kn (lts_kn (lts_is lts_nil))))) (fun W0 hb0 hz0 => ?_)
  rotate_left 3
  rw [show lateIdx [1, 0, 1, 1, 0] = [] from by rfl]
  have hb1 := HBX.out.trans (hb0.mono HBX.out.size)
  have kW := k1.below_ hb0 k1.lt
  have zW := kW.lt
  have p0 : W0.cell? ⟨w.heap.size, 0, none⟩ = some (.slice A1 xs.length c1) := (kW.cell_ 0).trans (by simp)
  have p1 : W0.cell? ⟨w.heap.size, 1, none⟩ = some (.slice A2 ys.length c2) := (kW.cell_ 1).trans (by simp)
  have p2 : W0.cell? ⟨w.heap.size, 2, none⟩ = some (.slice A3 rs.length c3) := (kW.cell_ 2).trans (by simp)
  refine chn_kn (stp_take (by rfl) ?yan0) ?ran0
  case yan0 =>
    intro w hbw hd
    have r0 := cell_keep hbw p0 zW
    have r1 := cell_keep hbw p1 zW
    have r2 := cell_keep hbw p2 zW
    clear hd
    go_simp
    first | done | with_reducible rfl
  (try simp only [Act.put, List.setIfInBounds_toArray, List.set_cons_zero, List.set_cons_succ, List.nil_append, List.cons_append, Nat.reduceAdd])
  refine chn_is (stp_pure (by rfl) ?yan1) ?ran1
  case yan1 =>
    intro w
    go_simp
    first | done | with_reducible rfl
  (try simp only [Act.put, List.setIfInBounds_toArray, List.set_cons_zero, List.set_cons_succ, List.nil_append, List.cons_append, Nat.reduceAdd])
  refine chn_kn ?san2 ?ran2
  case san2 =>
    intro w hbw hd K Q' hK
    clear hd
    go_simp
    refine (isTarget_any T _).mono ?_
    rintro e y ⟨rfl, rfl⟩
    go_wp2_with fail
    refine hK.out (.bool (tgtB T)) _ _ ?_ ?_ rfl
    · (simp only [Act.put, List.setIfInBounds_toArray, List.set_cons_zero, List.set_cons_succ, List.nil_append, List.cons_append, Nat.reduceAdd])
    · exact (by repeat' (first | with_reducible exact Below.refl _ _ | with_reducible assumption | with_reducible apply Below.drew | with_reducible apply below_drewN | with_reducible apply Below.alloc | with_reducible apply Below.setCell | (with_reducible refine Below.trans ?_ (Below.mono (by assumption) ?_)) | (simp; done) | (simp; omega) | omega | with_reducible apply le_size_alloc | with_reducible apply le_size_drewN | with_reducible apply le_size_drew | with_reducible apply le_size_setCell | with_reducible refine Nat.le_trans ?_ (Below.size (by assumption))))
  (try simp only [Act.put, List.setIfInBounds_toArray, List.set_cons_zero, List.set_cons_succ, List.nil_append, List.cons_append, Nat.reduceAdd])
  refine chn_kn ?san3 ?ran3
  case san3 =>
    intro w hbw hd K Q' hK
    clear hd
    go_simp
    refine (sound_any A1 A2 A3 c1 c2 c3 xs ys rs (tgtB T) _ (HM.out.ext (hb1.trans (hbw.mono hb1.size)))).mono ?_
    rw [HZ.out]
    rintro e y ⟨rfl, hy⟩
    go_wp2_with fail
    refine hK.out (.int .i64 z) _ _ ?_ ?_ rfl
    · (simp only [Act.put, List.setIfInBounds_toArray, List.set_cons_zero, List.set_cons_succ, List.nil_append, List.cons_append, Nat.reduceAdd])
    · exact (by repeat' (first | with_reducible exact Below.refl _ _ | with_reducible assumption | with_reducible apply Below.drew | with_reducible apply below_drewN | with_reducible apply Below.alloc | with_reducible apply Below.setCell | (with_reducible refine Below.trans ?_ (Below.mono (by assumption) ?_)) | (simp; done) | (simp; omega) | omega | with_reducible apply le_size_alloc | with_reducible apply le_size_drewN | with_reducible apply le_size_drew | with_reducible apply le_size_setCell | with_reducible refine Nat.le_trans ?_ (Below.size (by assumption))))
  (try simp only [Act.put, List.setIfInBounds_toArray, List.set_cons_zero, List.set_cons_succ, List.nil_append, List.cons_append, Nat.reduceAdd])
  refine chn_is (stp_pure (by rfl) ?yan4) ?ran4
  case yan4 =>
    intro w
    go_simp
    first | done | with_reducible rfl
  (try simp only [Act.put, List.setIfInBounds_toArray, List.set_cons_zero, List.set_cons_succ, List.nil_append, List.cons_append, Nat.reduceAdd])
  refine chn_end (fun wz lo hi hbz hd hR => ?_)
  have HB4 := Lib.hid (hb1.trans (hbz.mono hb1.size))
  have K1 := Lib.hid (kW.below_ hbz zW)
  have HX4 := Lib.hid (hb0.trans (hbz.mono hb0.size))
  clear hd hR p0 p1 p2 zW kW hb1 k1 hb0 hbz hz0 HBX
  refine late_none ?_
  obtain ⟨x4, rfl⟩ : ∃ x4 : World, x4 = wz := ⟨_, rfl⟩
  go_wp2_with fail
  refine bodyPost_ret (v := .tuple #[.slice none 0 0, .int .i64 z]) (by simp [results, Try.results23, go_sem]) rfl ?_
  exact ⟨none, 0, rfl, Sl.nil, HB4.out⟩

set_option maxRecDepth 100000 in
set_option maxHeartbeats 4000000 in
theorem Victims_in (n : Nat) (hn : 6 ≤ n) (A1 A2 A3 : Option Addr) (c1 c2 c3 : Nat) (xs ys : List Int) (rs : List Bool) (T : Int) (w : World) (h : InMem w A1 A2 A3 xs ys rs) (hz : sndS xs ys rs (tgtB T) = 0) :
    CallsIn Fence.wide n Try.prog 23 #[.agg #[.slice A1 xs.length c1, .slice A2 ys.length c2, .slice A3 rs.length c3], .int .i64 T] w (VPost (vicS T xs ys rs) w) := by
  have HE : Hid (vicS T xs ys rs = (vicP (full T xs ys rs []), 0)) := by show _ = _; unfold vicS; rw [hz, if_neg (by simp)]
  rw [HE.out]
  have HC := Lib.hid (snd_ok hz).1
  have HFL := Lib.hid (full_len (T := T) (mv := []) (snd_ok hz).1)
  have HM := Lib.hid h; have HZ := Lib.hid hz
  clear h hz
  obtain ⟨z, hz⟩ : ∃ z : Int, z = 0 := ⟨_, rfl⟩
  rw [← hz] at HZ
  have HZ0 := Lib.hid hz
  clear hz
  obtain ⟨i0, hi0, hz0, hz1, hz2⟩ := info_parts intInfo
  have h1 : 1 ≤ n := by omega
  obtain ⟨X, hX⟩ : ∃ X, w.alloc (.cells #[.slice A1 xs.length c1, .slice A2 ys.length c2, .slice A3 rs.length c3] 25) = X := ⟨_, rfl⟩
  have k1 : Blk X w.heap.size 25 #[.slice A1 xs.length c1, .slice A2 ys.length c2, .slice A3 rs.length c3] := by rw [← hX]; exact Blk.new_ rfl rfl
  have HBX : Hid (Below w.heap.size w X) := by show Below _ _ _; rw [← hX]; exact (Below.refl _ _).alloc (Nat.le_refl _) _
  refine callsIn_of_wp_marks Try.func23 rfl trivial ?_ rfl
  simp only [Try.ntmps23, List.size_toArray, List.length_cons, List.length_nil, Nat.reduceAdd, Nat.reduceSub, Array.replicate_succ, Array.replicate_zero, List.push_toArray, List.append_toArray, List.nil_append, List.cons_append]
  gi_wp2_with fail
  (try rw [hX])
  clear hX
  refine wpIn_region_chain2 (.inl rfl) (by omega) (by kernel_rfl) [1, 0, 1, 1, 0] [[], [], [], [], []] [.kn ?fan0, .is ?fan1, .kn (.bool (tgtB T)), .kn (.int .i64 z), .is ?fan4] (by rfl) (by rfl) (by kernel_rfl) (by kernel_rfl) (by kernel_rfl) (by kernel_rfl) (by kernel_rfl) (by kernel_rfl) (lts_kn (lts_is (lts_kn (lts_kn (lts_is lts_nil))))) (fun W0 hb0 hz0 => ?_)
  rotate_left 3
  rw [show lateIdx [1, 0, 1, 1, 0] = [] from by rfl]
  have hb1 := HBX.out.trans (hb0.mono HBX.out.size)
  have kW := k1.below_ hb0 k1.lt
  have zW := kW.lt
  have p0 : W0.cell? ⟨w.heap.size, 0, none⟩ = some (.slice A1 xs.length c1) := (kW.cell_ 0).trans (by simp)
  have p1 : W0.cell? ⟨w.heap.size, 1, none⟩ = some (.slice A2 ys.length c2) := (kW.cell_ 1).trans (by simp)
  have p2 : W0.cell? ⟨w.heap.size, 2, none⟩ = some (.slice A3 rs.length c3) := (kW.cell_ 2).trans (by simp)
  refine chn_kn (stp_take (by rfl) ?yan0) ?ran0
  case yan0 =>
    intro w hbw hd
    have r0 := cell_keep hbw p0 zW
    have r1 := cell_keep hbw p1 zW
    have r2 := cell_keep hbw p2 zW
    clear hd
    go_simp
    first | done | with_reducible rfl
  (try simp only [Act.put, List.setIfInBounds_toArray, List.set_cons_zero, List.set_cons_succ, List.nil_append, List.cons_append, Nat.reduceAdd])
  refine chn_is (stp_pure (by rfl) ?yan1) ?ran1
  case yan1 =>
    intro w
    go_simp
    first | done | with_reducible rfl
  (try simp only [Act.put, List.setIfInBounds_toArray, List.set_cons_zero, List.set_cons_succ, List.nil_append, List.cons_append, Nat.reduceAdd])
  refine chn_kn ?san2 ?ran2
  case san2 =>
    intro w hbw hd K Q' hK
    clear hd
    go_simp
    refine (isTarget_any T _).mono ?_
    rintro e y ⟨rfl, rfl⟩
    go_wp2_with fail
    refine hK.out (.bool (tgtB T)) _ _ ?_ ?_ rfl
    · (simp only [Act.put, List.setIfInBounds_toArray, List.set_cons_zero, List.set_cons_succ, List.nil_append, List.cons_append, Nat.reduceAdd])
    · exact (by repeat' (first | with_reducible exact Below.refl _ _ | with_reducible assumption | with_reducible apply Below.drew | with_reducible apply below_drewN | with_reducible apply Below.alloc | with_reducible apply Below.setCell | (with_reducible refine Below.trans ?_ (Below.mono (by assumption) ?_)) | (simp; done) | (simp; omega) | omega | with_reducible apply le_size_alloc | with_reducible apply le_size_drewN | with_reducible apply le_size_drew | with_reducible apply le_size_setCell | with_reducible refine Nat.le_trans ?_ (Below.size (by assumption))))
  (try simp only [Act.put, List.setIfInBounds_toArray, List.set_cons_zero, List.set_cons_succ, List.nil_append, List.cons_append, Nat.reduceAdd])
  refine chn_kn ?san3 ?ran3
  case san3 =>
    intro w hbw hd K Q' hK
    clear hd
    go_simp
    refine (sound_any A1 A2 A3 c1 c2 c3 xs ys rs (tgtB T) _ (HM.out.ext (hb1.trans (hbw.mono hb1.size)))).mono ?_
    rw [HZ.out]
    rintro e y ⟨rfl, hy⟩
    go_wp2_with fail
    refine hK.out (.int .i64 z) _ _ ?_ ?_ rfl
    · (simp only [Act.put, List.setIfInBounds_toArray, List.set_cons_zero, List.set_cons_succ, List.nil_append, List.cons_append, Nat.reduceAdd])
    · exact (by repeat' (first | with_reducible exact Below.refl _ _ | with_reducible assumption | with_reducible apply Below.drew | with_reducible apply below_drewN | with_reducible apply Below.alloc | with_reducible apply Below.setCell | (with_reducible refine Below.trans ?_ (Below.mono (by assumption) ?_)) | (simp; done) | (simp; omega) | omega | with_reducible apply le_size_alloc | with_reducible apply le_size_drewN | with_reducible apply le_size_drew | with_reducible apply le_size_setCell | with_reducible refine Nat.le_trans ?_ (Below.size (by assumption))))
  (try simp only [Act.put, List.setIfInBounds_toArray, List.set_cons_zero, List.set_cons_succ, List.nil_append, List.cons_append, Nat.reduceAdd])
  refine chn_is (stp_pure (by rfl) ?yan4) ?ran4
  case yan4 =>
    intro w
    go_simp
    first | done | with_reducible rfl
  (try simp only [Act.put, List.setIfInBounds_toArray, List.set_cons_zero, List.set_cons_succ, List.nil_append, List.cons_append, Nat.reduceAdd])
  refine chn_end (fun wz lo hi hbz hd hR => ?_)
  have HB4 := Lib.hid (hb1.trans (hbz.mono hb1.size))
  have K1 := Lib.hid (kW.below_ hbz zW)
  have HX4 := Lib.hid (hb0.trans (hbz.mono hb0.size))
  clear hd hR p0 p1 p2 zW kW hb1 k1 hb0 hbz hz0 HBX
  refine late_none ?_
  obtain ⟨x4, rfl⟩ : ∃ x4 : World, x4 = wz := ⟨_, rfl⟩
  have hz := HZ0.out
  subst hz
  have kl1 := K1.out.lt
  have q0 : x4.cell? ⟨w.heap.size, 0, none⟩ = some (.slice A1 xs.length c1) := (K1.out.cell_ 0).trans (by simp)
  have q1 : x4.cell? ⟨w.heap.size, 1, none⟩ = some (.slice A2 ys.length c2) := (K1.out.cell_ 1).trans (by simp)
  have q2 : x4.cell? ⟨w.heap.size, 2, none⟩ = some (.slice A3 rs.length c3) := (K1.out.cell_ 2).trans (by simp)
  gi_wp2_with fail
  obtain ⟨X, hX⟩ : ∃ X, x4.alloc (.cells #[.slice none 0 0] 22) = X := ⟨_, rfl⟩
  have bX : Below x4.heap.size x4 X := by rw [← hX]; exact (Below.refl _ _).alloc (Nat.le_refl _) _
  have kv : Blk X x4.heap.size 22 #[.slice none 0 0] := by rw [← hX]; exact Blk.new_ rfl rfl
  have HBX := Lib.hid (HB4.out.trans (bX.mono HB4.out.size))
  have sX : X.heap.size = x4.heap.size + 1 := by rw [← hX]; simp
  (try rw [hX])
  clear hX q0 q1 q2
  refine ⟨trivial, (callsIn_wide.2 (sweep_any A1 A2 A3 xs.length ys.length rs.length c1 c2 c3 T X)).mono ?_⟩
  rintro e W ⟨rfl, hW⟩
  have sW : W.heap.size = X.heap.size + 2 := by rw [hW]; simp
  have bW : Below X.heap.size X W := by rw [hW]; exact ((Below.refl _ _).alloc (Nat.le_refl _) _).alloc (by simp) _
  have kl : Blk W X.heap.size 25 #[.slice A1 xs.length c1, .slice A2 ys.length c2, .slice A3 rs.length c3] := by rw [hW]; exact (Blk.new_ rfl rfl).alloc_ _
  have kt : Blk W (X.heap.size + 1) 3 #[.int .i64 T] := by rw [hW]; exact Blk.new_ (by simp) rfl
  have BW := Lib.hid (HBX.out.trans (bW.mono HBX.out.size))
  have MW : InMem W A1 A2 A3 xs ys rs := HM.out.ext BW.out
  have VW : VB w.heap.size x4.heap.size [] (fun _ => False) W := ⟨none, 0, kv.below_ bW (by omega), World.ownsRow_nil _ _ _ _, fun g e => by cases e⟩
  have zx := HB4.out.size
  have HSX := Lib.hid sX; have HSW := Lib.hid sW
  clear hW bX kv bW sX sW
  gi_wp2_with fail
  have sX := HSX.out; have sW := HSW.out
  have nn : ∀ k (G : Nat → Prop) s, k < W.heap.size → ¬ ¬ (Theirs W.heap.size (fun _ => False) G k ∨ EvH s k) := fun k G s h1 hn => hn (.inl (.inr ⟨h1, fun h => h⟩))
  refine wpIn_rangeH rfl h1 (gf := 75) (lb := #[.pointer (some ⟨X.heap.size, 0, none⟩), .pointer (some ⟨X.heap.size + 1, 0, none⟩)]) rfl trivial (enters_of Try.func75 (by kernel_rfl) rfl)
    (sweep1_in Fence.wide (n - 1) trivial rfl (by omega) rfl X.heap.size (X.heap.size + 1) A1 A2 A3 c1 c2 c3 xs ys rs T (fun b => b = x4.heap.size) W MW HC.out kl kt (fun b hb => by omega))
    (fun _ => rfl) (fun b hb => hb.elim) (fun x V1 V2 hm hs ha => ⟨hm.1.aside ha (hm.2.1.sub fun k hk => by omega), hm.2⟩)
    (fun pre G V => VB w.heap.size x4.heap.size (vicP (pre.map EV.pl)) G V ∧ Below w.heap.size w V)
    (fun _ _ _ _ => False)
    (fun pre G V1 V2 ⟨h1, h2⟩ hs ha => ⟨h1.aside ha (nn _ G pre (by omega)) (fun g hg hn => hn (.inl (.inl hg))), h2.trans (ha.below (by omega) (fun k hk => nn k G pre (by omega)))⟩)
    (fun _ _ _ _ _ h _ _ => h)
    (fun _ _ _ _ h hG => ⟨h.1.mono hG, h.2⟩) (fun _ _ _ _ _ h _ => h)
    evH_nil evH_snoc (fun x V b hm hb => by have := EV.mem_lo hm hb; omega)
    ⟨VW, BW.out⟩
    (fun x a' V => ∃ B8, W.heap.size + 2 ≤ B8 ∧ Blk V B8 82 #[.int .i64 x.what, .int .i64 x.f, .slice x.A1 x.xs.length x.c1, .slice x.A2 x.ys.length x.c2, .slice x.A3 x.rs.length x.c3, .int .i64 T, .int .i64 x.f, .int .u64 (wrd 0 x.mv), .int .u64 (wrd 1 x.mv), .int .u64 (wrd 2 x.mv), .int .u64 (wrd 3 x.mv)] ∧ a' = { tmps := #[.agg #[.slice A1 xs.length c1, .slice A2 ys.length c2, .slice A3 rs.length c3], .int .i64 T, .pointer (some ⟨w.heap.size, 0, none⟩), undef, .slice none 0 0, .int .i64 0, .int .i64 0, .pointer (some ⟨x4.heap.size, 0, none⟩), .pointer (some ⟨B8, 0, none⟩), .agg #[.slice A1 xs.length c1, .slice A2 ys.length c2, .slice A3 rs.length c3], .int .i64 T, .bool (tgtB T), .int .i64 0, .int .i64 0, .bool false, undef, .agg #[.slice A1 xs.length c1, .slice A2 ys.length c2, .slice A3 rs.length c3], .int .i64 T, .func (.func 75) #[] #[.pointer (some ⟨X.heap.size, 0, none⟩), .pointer (some ⟨X.heap.size + 1, 0, none⟩)], .agg #[.int .i64 x.what, .int .i64 x.f, .slice x.A1 x.xs.length x.c1, .slice x.A2 x.ys.length x.c2, .slice x.A3 x.rs.length x.c3, .int .i64 T, .int .i64 x.f, .int .u64 (wrd 0 x.mv), .int .u64 (wrd 1 x.mv), .int .u64 (wrd 2 x.mv), .int .u64 (wrd 3 x.mv)], undef, undef, undef, undef, undef, undef, undef, undef, undef], defers := [] })
    (fun x a' V1 V2 ⟨B8, h1, h2, h3⟩ hs ha => ⟨B8, h1, ha.blk h2 (by omega), h3⟩)
    (fun x V1 V2 hm hb => ⟨hm.1.ext hb, hm.2⟩) ?assign ?body ?done ?stop
  case assign =>
    intro lp x V K hV hK
    clear sX sW
    simp only [EV.enc]
    gi_wp2
    exact hK _ _ ⟨V.heap.size, hV, Blk.new_ rfl rfl, rfl⟩ ((Below.refl _ _).alloc (Nat.le_refl _) _)
  case body =>
    rintro lp pre x G V a' ⟨hv, hb⟩ hm ⟨B8, hB8, k8, rfl⟩ hlen hsz hG _
    have e0 : V.cell? ⟨B8, 0, none⟩ = some (.int .i64 x.what) := (k8.cell_ 0).trans (by simp)
    have e1 : V.cell? ⟨B8, 1, none⟩ = some (.int .i64 x.f) := (k8.cell_ 1).trans (by simp)
    have hvl : (vicP (pre.map EV.pl)).length ≤ 2000 := by have := vicP_len (pre.map EV.pl); rw [List.length_map] at this; have := HFL.out; omega
    have HBB := Lib.hid hb
    have HEX : Hid (vicP ((pre ++ [x]).map EV.pl) = vicP (pre.map EV.pl) ++ (if x.what = 3 then [x.f] else [])) := by show _ = _; rw [List.map_append]; exact vicP_snoc _ _
    have hbs := hb.size
    clear hb k8 hm sX sW
    by_cases h3 : x.what = 3
    · have h3b : (x.what == 3) = true := by simpa using h3
      have HEX2 : Hid (vicP ((pre ++ [x]).map EV.pl) = vicP (pre.map EV.pl) ++ [x.f]) := by show _ = _; rw [HEX.out, if_pos h3]
      clear HEX h3
      obtain ⟨A, c, kb, ho, hg⟩ := hv
      have hc0 : V.cell? ⟨x4.heap.size, 0, none⟩ = some (.slice A (vicP (pre.map EV.pl)).length c) := (kb.cell_ 0).trans (by simp)
      have KB := Lib.hid kb; have HO := Lib.hid ho; have HG := Lib.hid hg; have HGG := Lib.hid hG
      have hzx : w.heap.size ≤ x4.heap.size := zx
      clear kb ho hg hG
      gi_wp2_with (gi_at_builtin; refine wpListIn_app_at _ rfl _ _ 22 rfl w.heap.size 3 i0 (.int .i64 0) 1 8 Try.underlying22 hi0 hz0 hz1 hz2 rfl (by decide) _ _ _ rfl (World.ownsRow.alloc HO.out _) ⟨V.heap.size, 0, none⟩ 1 1 [.int .i64 x.f] rfl rfl (cell_one_new _ _ _) (by simp [Value.oneCell']) (by unfold maxLen; omega) (by omega) (by simp; omega) ?_; intro v' w1 hown' hgrow hat; obtain ⟨g', cap', rfl⟩ := ownsRow_succ hown'; obtain ⟨hk1, ha1, hko, hbl, hvb⟩ := VB.app KB.out HO.out hbs hzx HG.out (fun hh => by have := HGG.out _ hh; have := HSX.out; have := HSW.out; omega) (fun g hh => (HGG.out g hh).2) hown' hgrow hat; have hc1 : w1.cell? ⟨x4.heap.size, 0, none⟩ = some (.slice A (vicP (pre.map EV.pl)).length c) := (hk1.cell_ 0).trans (by simp); have hf1 := hk1.frozen_ 0; have HVB := Lib.hid hvb; have HA1 := Lib.hid ha1; have HKO := Lib.hid hko; have HBL := Lib.hid hbl; clear hvb ha1 hko hbl hown' hgrow hat hk1)
      exact ⟨HKO.out.from _, (HA1.out.wide fun k _ h => .inl h).setCell (p := ⟨x4.heap.size, 0, none⟩) (.inr (.inr rfl)) _, by rw [HEX2.out]; exact HVB.out, HBB.out.trans HBL.out⟩
    · have h3b : (x.what == 3) = false := by simpa using h3
      have HEX2 : Hid (vicP ((pre ++ [x]).map EV.pl) = vicP (pre.map EV.pl)) := by show _ = _; rw [HEX.out, if_neg h3, List.append_nil]
      have HV := Lib.hid hv
      clear HEX h3 hv
      gi_wp2
      exact ⟨KeepsFrom.refl _ _, Aside.refl _ _, by rw [HEX2.out]; exact HV.out.mono fun g hg => .inl hg, HBB.out⟩
  case done =>
    rintro es G V hS ⟨hv, hb⟩ hsz hK
    rw [hS] at hv
    obtain ⟨A, c, kb, ho, hg⟩ := hv
    have hc0 : V.cell? ⟨x4.heap.size, 0, none⟩ = some (.slice A (vicP (full T xs ys rs [])).length c) := (kb.cell_ 0).trans (by simp)
    have HB := Lib.hid hb; have HO := Lib.hid ho
    clear kb hg hb ho sX
    have HK := Lib.hid hK
    clear hK
    gi_wp2
    show LeavesInM _ _ _ _ _ _ _ _ _
    refine ⟨by simp, .inl ⟨_, _, rfl, run_takeDeferred HK.out, ?_⟩⟩
    refine ⟨.tuple #[.slice A (vicP (full T xs ys rs [])).length c, .int .i64 0], by simp [results, Try.results23, go_sem], ?_⟩
    have sW := HSW.out
    refine ⟨A, c, rfl, (own_sl HO.out).ext_put HK.out, HB.out.trans (belowK_b (w := w) (Nat.le_refl _) V _ _ _ (by have := HSX.out; omega) HK.out rfl rfl)⟩
  case stop =>
    rintro c pre G V hSp h
    exact h.elim

theorem Victims_any (A1 A2 A3 : Option Addr) (c1 c2 c3 : Nat) (xs ys : List Int) (rs : List Bool) (T : Int) (w : World) (h : InMem w A1 A2 A3 xs ys rs) :
    Calls Try.prog 23 #[.agg #[.slice A1 xs.length c1, .slice A2 ys.length c2, .slice A3 rs.length c3], .int .i64 T] w (VPost (vicS T xs ys rs) w) := by
  by_cases h0 : sndS xs ys rs (tgtB T) = 0
  · exact callsIn_wide.1 (Victims_in 6 (Nat.le_refl _) A1 A2 A3 c1 c2 c3 xs ys rs T w h h0)
  · exact Victims_bad A1 A2 A3 c1 c2 c3 xs ys rs T w h rfl h0
end Go.Proofs.Ytiobbdfkimpfbaa
