/- Contracts of package scan: twin, sound, isTarget, isCount; headgateref30: asked, counted. Written by gen_scf.py. -/
import Derived.Test.YtiobbdfkimpfbaaScE
namespace Go.Proofs.Ytiobbdfkimpfbaa
open Go.RowKit Go.Maps

/-- A row of a call's own. -/
def ClF {α : Type} (mk : α → Value) (xs : List α) (v : Value) (lo hi : Nat) (w : World) : Prop := ∃ A c, v = .slice A xs.length c ∧ Sl w mk A xs ∧ ∀ g, A.map (·.block) = some g → lo ≤ g
theorem ClF.lasts {α : Type} (mk : α → Value) (xs : List α) : (Fk.has (ClF mk xs)).lasts := fun _ _ _ _ _ ⟨A, c, e, h, n⟩ hb => ⟨A, c, e, h.ext hb, n⟩
theorem own_sl {α : Type} {w : World} {base : Nat} {E : TypeId} {mk : α → Value} {A : Option Addr} {c : Nat} {xs : List α} (h : Own w base E mk (.slice A xs.length c) xs) : Sl w mk A xs := by
  obtain ⟨A', c', e, hs⟩ := h.sl
  injection e with e1
  subst e1
  exact hs

/-- Lists of a call's own, by value. -/
def TwPost (xs ys : List Int) (rs : List Bool) (w : World) (e : Ending) (w' : World) : Prop :=
  ∃ B1 B2 B3 d1 d2 d3, e = .returned (.agg #[.slice B1 xs.length d1, .slice B2 ys.length d2, .slice B3 rs.length d3]) ∧ InMem w' B1 B2 B3 xs ys rs ∧ NewL w.heap.size B1 B2 B3 ∧ Below w.heap.size w w'

set_option maxRecDepth 100000 in
set_option maxHeartbeats 4000000 in
theorem twin_any (A1 A2 A3 : Option Addr) (c1 c2 c3 : Nat) (xs ys : List Int) (rs : List Bool) (w : World) (h : InMem w A1 A2 A3 xs ys rs) (la : xs.length ≤ 100000) (li : ys.length ≤ 100000) (lr : rs.length ≤ 100000) :
    Calls Try.prog 39 #[.agg #[.slice A1 xs.length c1, .slice A2 ys.length c2, .slice A3 rs.length c3]] w (TwPost xs ys rs w) := by
  have HM := Lib.hid h
  clear h
  obtain ⟨X, hX⟩ : ∃ X, (w.alloc (.cells #[.slice A1 xs.length c1, .slice A2 ys.length c2, .slice A3 rs.length c3] 25)).alloc (.cells #[.slice none 0 0, .slice none 0 0, .slice none 0 0] 25) = X := ⟨_, rfl⟩
  have k1 : Blk X w.heap.size 25 #[.slice A1 xs.length c1, .slice A2 ys.length c2, .slice A3 rs.length c3] := by rw [← hX]; exact (Blk.new_ rfl rfl).alloc_ _
  have k2 : Blk X (w.heap.size + 1) 25 #[.slice none 0 0, .slice none 0 0, .slice none 0 0] := by rw [← hX]; exact Blk.new_ (by simp) rfl
  have hbx : Below w.heap.size w X := by rw [← hX]; exact ((Below.refl _ _).alloc (Nat.le_refl _) _).alloc (by simp) _
  go_enter Try.func39, Try.ntmps39
  go_wp2_with fail
  (try rw [hX])
  clear hX
  refine wp_region_chain2 [0, 1, 2, 0, 1, 2, 0, 1, 2, 0, 3] [[], [], [], [], [], [], [], [], [], [2, 5, 8], []] [.is ?fan0, .kn ?fan1, .has (ClF (Value.int .i64) xs), .is ?fan3, .kn ?fan4, .has (ClF (Value.int .i64) ys), .is ?fan6, .kn ?fan7, .has (ClF (Value.bool) rs), .fn [2, 5, 8] (fun l => .agg #[l.getD 0 undef, l.getD 1 undef, l.getD 2 undef]), .late] (by rfl) (by rfl) (by kernel_rfl) (by kernel_rfl) (by kernel_rfl) (by kernel_rfl) (by kernel_rfl) (by kernel_rfl) (lts_is (lts_kn (lts_has (ClF.lasts (Value.int .i64) xs) (lts_is (lts_kn (lts_has (ClF.lasts (Value.int .i64) ys) (lts_is (lts_kn (lts_has (ClF.lasts (Value.bool) rs) (lts_fn (lts_late lts_nil))))))))))) (fun W0 hb0 hz0 => ?_)
  rotate_left 6
  rw [show lateIdx [0, 1, 2, 0, 1, 2, 0, 1, 2, 0, 3] = [10] from by rfl]
  have hb1 := hbx.trans (hb0.mono hbx.size)
  have hz1 : w.heap.size ≤ W0.heap.size := hb1.size
  have kW := k1.below_ hb0 k1.lt
  have zW := kW.lt
  have kO := k2.below_ hb0 k2.lt
  have p0 : W0.cell? ⟨w.heap.size, 0, none⟩ = some (.slice A1 xs.length c1) := (kW.cell_ 0).trans (by simp)
  have p1 : W0.cell? ⟨w.heap.size, 1, none⟩ = some (.slice A2 ys.length c2) := (kW.cell_ 1).trans (by simp)
  have p2 : W0.cell? ⟨w.heap.size, 2, none⟩ = some (.slice A3 rs.length c3) := (kW.cell_ 2).trans (by simp)
  refine chn_is (stp_pure (by rfl) ?yan0) ?ran0
  case yan0 =>
    intro w
    go_simp
    first | done | with_reducible rfl
  (try simp only [Act.put, List.setIfInBounds_toArray, List.set_cons_zero, List.set_cons_succ, List.nil_append, List.cons_append, Nat.reduceAdd])
  refine chn_kn (stp_take (by rfl) ?yan1) ?ran1
  case yan1 =>
    intro w hbw hd
    have r0 := cell_keep hbw p0 zW
    clear hd
    go_simp
    first | done | with_reducible rfl
  (try simp only [Act.put, List.setIfInBounds_toArray, List.set_cons_zero, List.set_cons_succ, List.nil_append, List.cons_append, Nat.reduceAdd])
  refine chn_has ?san2 (fun van2 => ?ran2)
  case san2 =>
    intro w hbw hd K Q' hK
    clear hd
    go_simp
    refine (CloneI_any A1 c1 xs _ (HM.out.a.ext (hb1.trans (hbw.mono hz1))) la).mono ?_
    rintro e y ⟨A', c', rfl, ho, hy⟩
    go_wp2_with fail
    refine hK.out (.slice A' xs.length c') _ _ ?_ ?_ ?_
    · (simp only [Act.put, List.setIfInBounds_toArray, List.set_cons_zero, List.set_cons_succ, List.nil_append, List.cons_append, Nat.reduceAdd])
    · exact (by repeat' (first | with_reducible exact Below.refl _ _ | with_reducible assumption | with_reducible apply Below.drew | with_reducible apply below_drewN | with_reducible apply Below.alloc | with_reducible apply Below.setCell | (with_reducible refine Below.trans ?_ (Below.mono (by assumption) ?_)) | (simp; done) | (simp; omega) | omega | with_reducible apply le_size_alloc | with_reducible apply le_size_drewN | with_reducible apply le_size_drew | with_reducible apply le_size_setCell | with_reducible refine Nat.le_trans ?_ (Below.size (by assumption))))
    · exact ⟨A', c', rfl, own_sl ho, fun g e => (ho.block g e).1⟩
  (try simp only [Act.put, List.setIfInBounds_toArray, List.set_cons_zero, List.set_cons_succ, List.nil_append, List.cons_append, Nat.reduceAdd])
  refine chn_is (stp_pure (by rfl) ?yan3) ?ran3
  case yan3 =>
    intro w
    go_simp
    first | done | with_reducible rfl
  (try simp only [Act.put, List.setIfInBounds_toArray, List.set_cons_zero, List.set_cons_succ, List.nil_append, List.cons_append, Nat.reduceAdd])
  refine chn_kn (stp_take (by rfl) ?yan4) ?ran4
  case yan4 =>
    intro w hbw hd
    have r1 := cell_keep hbw p1 zW
    clear hd
    go_simp
    first | done | with_reducible rfl
  (try simp only [Act.put, List.setIfInBounds_toArray, List.set_cons_zero, List.set_cons_succ, List.nil_append, List.cons_append, Nat.reduceAdd])
  refine chn_has ?san5 (fun van5 => ?ran5)
  case san5 =>
    intro w hbw hd K Q' hK
    clear hd
    go_simp
    refine (CloneI_any A2 c2 ys _ (HM.out.i.ext (hb1.trans (hbw.mono hz1))) li).mono ?_
    rintro e y ⟨A', c', rfl, ho, hy⟩
    go_wp2_with fail
    refine hK.out (.slice A' ys.length c') _ _ ?_ ?_ ?_
    · (simp only [Act.put, List.setIfInBounds_toArray, List.set_cons_zero, List.set_cons_succ, List.nil_append, List.cons_append, Nat.reduceAdd])
    · exact (by repeat' (first | with_reducible exact Below.refl _ _ | with_reducible assumption | with_reducible apply Below.drew | with_reducible apply below_drewN | with_reducible apply Below.alloc | with_reducible apply Below.setCell | (with_reducible refine Below.trans ?_ (Below.mono (by assumption) ?_)) | (simp; done) | (simp; omega) | omega | with_reducible apply le_size_alloc | with_reducible apply le_size_drewN | with_reducible apply le_size_drew | with_reducible apply le_size_setCell | with_reducible refine Nat.le_trans ?_ (Below.size (by assumption))))
    · exact ⟨A', c', rfl, own_sl ho, fun g e => (ho.block g e).1⟩
  (try simp only [Act.put, List.setIfInBounds_toArray, List.set_cons_zero, List.set_cons_succ, List.nil_append, List.cons_append, Nat.reduceAdd])
  refine chn_is (stp_pure (by rfl) ?yan6) ?ran6
  case yan6 =>
    intro w
    go_simp
    first | done | with_reducible rfl
  (try simp only [Act.put, List.setIfInBounds_toArray, List.set_cons_zero, List.set_cons_succ, List.nil_append, List.cons_append, Nat.reduceAdd])
  refine chn_kn (stp_take (by rfl) ?yan7) ?ran7
  case yan7 =>
    intro w hbw hd
    have r2 := cell_keep hbw p2 zW
    clear hd
    go_simp
    first | done | with_reducible rfl
  (try simp only [Act.put, List.setIfInBounds_toArray, List.set_cons_zero, List.set_cons_succ, List.nil_append, List.cons_append, Nat.reduceAdd])
  refine chn_has ?san8 (fun van8 => ?ran8)
  case san8 =>
    intro w hbw hd K Q' hK
    clear hd
    go_simp
    refine (CloneB_any A3 c3 rs _ (HM.out.r.ext (hb1.trans (hbw.mono hz1))) lr).mono ?_
    rintro e y ⟨A', c', rfl, ho, hy⟩
    go_wp2_with fail
    refine hK.out (.slice A' rs.length c') _ _ ?_ ?_ ?_
    · (simp only [Act.put, List.setIfInBounds_toArray, List.set_cons_zero, List.set_cons_succ, List.nil_append, List.cons_append, Nat.reduceAdd])
    · exact (by repeat' (first | with_reducible exact Below.refl _ _ | with_reducible assumption | with_reducible apply Below.drew | with_reducible apply below_drewN | with_reducible apply Below.alloc | with_reducible apply Below.setCell | (with_reducible refine Below.trans ?_ (Below.mono (by assumption) ?_)) | (simp; done) | (simp; omega) | omega | with_reducible apply le_size_alloc | with_reducible apply le_size_drewN | with_reducible apply le_size_drew | with_reducible apply le_size_setCell | with_reducible refine Nat.le_trans ?_ (Below.size (by assumption))))
    · exact ⟨A', c', rfl, own_sl ho, fun g e => (ho.block g e).1⟩
  (try simp only [Act.put, List.setIfInBounds_toArray, List.set_cons_zero, List.set_cons_succ, List.nil_append, List.cons_append, Nat.reduceAdd])
  refine chn_fn (.agg #[van2, van5, van8]) (by rfl) (stp_pureK (by rfl) ?yan9) ?ran9
  case yan9 =>
    intro w0 hd w
    obtain ⟨_, _, B1, d1, rfl, _⟩ : ∃ lo hi, ClF (Value.int .i64) xs van2 lo hi w0 := hd 2 _ _ (by kernel_rfl) rfl rfl
    obtain ⟨_, _, B2, d2, rfl, _⟩ : ∃ lo hi, ClF (Value.int .i64) ys van5 lo hi w0 := hd 5 _ _ (by kernel_rfl) rfl rfl
    obtain ⟨_, _, B3, d3, rfl, _⟩ : ∃ lo hi, ClF Value.bool rs van8 lo hi w0 := hd 8 _ _ (by kernel_rfl) rfl rfl
    clear hd
    go_simp
    first | done | rfl
  (try simp only [Act.put, List.setIfInBounds_toArray, List.set_cons_zero, List.set_cons_succ, List.nil_append, List.cons_append, Nat.reduceAdd])
  refine chn_late ?ran10
  (try simp only [Act.put, List.setIfInBounds_toArray, List.set_cons_zero, List.set_cons_succ, List.nil_append, List.cons_append, Nat.reduceAdd])
  refine chn_end (fun wz lo hi hbz hd hR => ?_)
  obtain ⟨B1, d1, rfl, s1, n1⟩ : ClF (Value.int .i64) xs van2 (lo 2) (hi 2) wz := hd 2 _ _ rfl rfl
  obtain ⟨B2, d2, rfl, s2, n2⟩ : ClF (Value.int .i64) ys van5 (lo 5) (hi 5) wz := hd 5 _ _ rfl rfl
  obtain ⟨B3, d3, rfl, s3, n3⟩ : ClF Value.bool rs van8 (lo 8) (hi 8) wz := hd 8 _ _ rfl rfl
  have h2 := (hR.2 2 _ rfl).1
  have h5 := (hR.2 5 _ rfl).1
  have h8 := (hR.2 8 _ rfl).1
  have kz := kO.below_ hbz kO.lt
  have klz := kO.lt
  have HBZ := Lib.hid (hb1.trans (hbz.mono hz1))
  have hzz := hb0.size
  clear hd hR p0 p1 p2 hb1
  have y0 : wz.cell? ⟨w.heap.size + 1, 0, none⟩ = some (.slice none 0 0) := (kz.cell_ 0).trans (by simp)
  have y1 : wz.cell? ⟨w.heap.size + 1, 1, none⟩ = some (.slice none 0 0) := (kz.cell_ 1).trans (by simp)
  have y2 : wz.cell? ⟨w.heap.size + 1, 2, none⟩ = some (.slice none 0 0) := (kz.cell_ 2).trans (by simp)
  have f0_ := kz.frozen_ 0
  have f1_ := kz.frozen_ 1
  have f2_ := kz.frozen_ 2
  refine late_one (by simp only [List.getElem?_toArray, List.getElem?_cons_succ, List.getElem?_cons_zero]; rfl) (fun K Q' hK => ?_)
  go_simp
  refine hK.out _ ?_
  clear hK K Q'
  go_wp2_with fail
  refine bodyPost_ret (v := .agg #[.slice B1 xs.length d1, .slice B2 ys.length d2, .slice B3 rs.length d3]) (by simp [results, Try.results39, go_sem, y0, y1, y2]) rfl ?_
  have nb : NewL (w.heap.size + 2) B1 B2 B3 := ⟨fun g e => by have := n1 g e; have := hbx.size; omega, fun g e => by have := n2 g e; omega, fun g e => by have := n3 g e; omega⟩
  refine ⟨B1, B2, B3, d1, d2, d3, rfl, ?_, ⟨fun g e => by have := nb.a g e; omega, fun g e => by have := nb.i g e; omega, fun g e => by have := nb.r g e; omega⟩, ?_⟩
  · have : InMem wz B1 B2 B3 xs ys rs := ⟨s1, s2, s3, by omega, by omega, by omega, HM.out.wa, HM.out.wi⟩
    exact ((this.far_ nb (by omega) _ _).far_ nb (by omega) _ _).far_ nb (by omega) _ _
  · exact ((HBZ.out.setCell (p := ⟨w.heap.size + 1, 0, none⟩) (by simp) _).setCell (p := ⟨w.heap.size + 1, 1, none⟩) (by simp) _).setCell (p := ⟨w.heap.size + 1, 2, none⟩) (by simp) _

/-- The error of lists, and of what else is asked. -/
def sndS (xs ys : List Int) (rs : List Bool) (fits : Bool) : Int := if lruChk xs ys rs ≠ 0 then lruChk xs ys rs else if fits then 0 else 2
def tgtB (T : Int) : Bool := decide (0 ≤ T ∧ T ≤ 256)
def cntB (n : Int) : Bool := decide (0 ≤ n ∧ n ≤ 1000)
theorem isTarget_any (T : Int) (w : World) : Calls Try.prog 38 #[.int .i64 T] w fun e w' => e = .returned (.bool (tgtB T)) ∧ w = w' := by
  rcases (by omega : T < 0 ∨ (0 ≤ T ∧ T ≤ 256) ∨ (0 ≤ T ∧ 256 < T)) with h | h | h
  · rw [show tgtB T = false by unfold tgtB; simp; omega]
    have d0 : decide (T ≥ 0) = false := by simp; omega
    have d1 : ¬ 0 ≤ T := by omega
    clear h
    go_enter Try.func38, Try.ntmps38
    go_wp2_with fail
    go_ret
    exact ⟨rfl, rfl⟩
  · rw [show tgtB T = true by unfold tgtB; simp; omega]
    obtain ⟨h1, h2⟩ := h
    go_enter Try.func38, Try.ntmps38
    go_wp2_with fail
    go_ret
    exact ⟨rfl, rfl⟩
  · rw [show tgtB T = false by unfold tgtB; simp; omega]
    obtain ⟨h1, h2⟩ := h
    have d1 : ¬ T ≤ 256 := by omega
    clear h2
    go_enter Try.func38, Try.ntmps38
    go_wp2_with fail
    go_ret
    exact ⟨rfl, rfl⟩
theorem isCount_any (T : Int) (w : World) : Calls Try.prog 50 #[.int .i64 T] w fun e w' => e = .returned (.bool (cntB T)) ∧ w = w' := by
  rcases (by omega : T < 0 ∨ (0 ≤ T ∧ T ≤ 1000) ∨ (0 ≤ T ∧ 1000 < T)) with h | h | h
  · rw [show cntB T = false by unfold cntB; simp; omega]
    have d1 : ¬ 0 ≤ T := by omega
    clear h
    go_enter Try.func50, Try.ntmps50
    go_wp2_with fail
    go_ret
    exact ⟨rfl, rfl⟩
  · rw [show cntB T = true by unfold cntB; simp; omega]
    obtain ⟨h1, h2⟩ := h
    go_enter Try.func50, Try.ntmps50
    go_wp2_with fail
    go_ret
    exact ⟨rfl, rfl⟩
  · rw [show cntB T = false by unfold cntB; simp; omega]
    obtain ⟨h1, h2⟩ := h
    have d1 : ¬ T ≤ 1000 := by omega
    clear h2
    go_enter Try.func50, Try.ntmps50
    go_wp2_with fail
    go_ret
    exact ⟨rfl, rfl⟩

set_option maxRecDepth 100000 in
set_option maxHeartbeats 4000000 in
theorem sound_any (A1 A2 A3 : Option Addr) (c1 c2 c3 : Nat) (xs ys : List Int) (rs : List Bool) (fits : Bool) (w : World) (h : InMem w A1 A2 A3 xs ys rs) :
    Calls Try.prog 37 #[.agg #[.slice A1 xs.length c1, .slice A2 ys.length c2, .slice A3 rs.length c3], .bool fits] w fun e w' => e = .returned (.int .i64 (sndS xs ys rs fits)) ∧ Below w.heap.size w w' := by
  have HM := Lib.hid h
  clear h
  obtain ⟨z, hz⟩ : ∃ z, lruChk xs ys rs = z := ⟨_, rfl⟩
  have HZ := Lib.hid hz
  by_cases h0 : z = 0
  · have hs : sndS xs ys rs fits = if fits then 0 else 2 := by unfold sndS; rw [hz, if_neg (by simpa using h0)]
    rw [hs]
    clear hz hs
    subst h0
    cases fits
    · go_enter Try.func37, Try.ntmps37
      go_wp2_with fail
      refine ((HM.out.ext ((Below.refl _ _).alloc (Nat.le_refl _) _)).check c1 c2 c3).mono ?_
      rw [HZ.out]
      rintro e w1 ⟨rfl, hb1⟩
      go_wp2_with fail
      go_ret
      exact ⟨rfl, (by repeat' (first | with_reducible exact Below.refl _ _ | with_reducible assumption | with_reducible apply Below.drew | with_reducible apply below_drewN | with_reducible apply Below.alloc | with_reducible apply Below.setCell | (with_reducible refine Below.trans ?_ (Below.mono (by assumption) ?_)) | (simp; done) | (simp; omega) | omega | with_reducible apply le_size_alloc | with_reducible apply le_size_drewN | with_reducible apply le_size_drew | with_reducible apply le_size_setCell | refine Nat.le_trans ?_ (Below.size (by assumption))))⟩
    · go_enter Try.func37, Try.ntmps37
      go_wp2_with fail
      refine ((HM.out.ext ((Below.refl _ _).alloc (Nat.le_refl _) _)).check c1 c2 c3).mono ?_
      rw [HZ.out]
      rintro e w1 ⟨rfl, hb1⟩
      go_wp2_with fail
      go_ret
      exact ⟨rfl, (by repeat' (first | with_reducible exact Below.refl _ _ | with_reducible assumption | with_reducible apply Below.drew | with_reducible apply below_drewN | with_reducible apply Below.alloc | with_reducible apply Below.setCell | (with_reducible refine Below.trans ?_ (Below.mono (by assumption) ?_)) | (simp; done) | (simp; omega) | omega | with_reducible apply le_size_alloc | with_reducible apply le_size_drewN | with_reducible apply le_size_drew | with_reducible apply le_size_setCell | refine Nat.le_trans ?_ (Below.size (by assumption))))⟩
  · have hs : sndS xs ys rs fits = z := by unfold sndS; rw [hz, if_pos h0]
    rw [hs]
    have hzb : (z != 0) = true := by simpa using h0
    clear hz hs
    go_enter Try.func37, Try.ntmps37
    go_wp2_with fail
    refine ((HM.out.ext ((Below.refl _ _).alloc (Nat.le_refl _) _)).check c1 c2 c3).mono ?_
    rw [HZ.out]
    rintro e w1 ⟨rfl, hb1⟩
    go_wp2_with fail
    go_ret
    exact ⟨rfl, (by repeat' (first | with_reducible exact Below.refl _ _ | with_reducible assumption | with_reducible apply Below.drew | with_reducible apply below_drewN | with_reducible apply Below.alloc | with_reducible apply Below.setCell | (with_reducible refine Below.trans ?_ (Below.mono (by assumption) ?_)) | (simp; done) | (simp; omega) | omega | with_reducible apply le_size_alloc | with_reducible apply le_size_drewN | with_reducible apply le_size_drew | with_reducible apply le_size_setCell | refine Nat.le_trans ?_ (Below.size (by assumption))))⟩
end Go.Proofs.Ytiobbdfkimpfbaa
