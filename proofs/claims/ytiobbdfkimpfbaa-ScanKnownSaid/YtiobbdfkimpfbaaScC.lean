/- Contracts of package scan: demote. Written by gen_scb.py. -/
import Derived.Test.YtiobbdfkimpfbaaScB
namespace Go.Proofs.Ytiobbdfkimpfbaa
open Go.RowKit Go.Maps

set_option maxRecDepth 100000 in
set_option maxHeartbeats 4000000 in
theorem demote_none (b : Nat) (A1 A2 A3 : Option Addr) (c1 c2 c3 : Nat) (xs ys : List Int) (rs : List Bool) (T F : Int) (mv : List Int) (w : World) (h : WK w b A1 A2 A3 c1 c2 c3 xs ys rs T F mv) (h0 : xs.length = 0) :
    Calls Try.prog 66 #[.pointer (some ⟨b, 0, none⟩)] w fun e w' => e = .returned (.bool false) ∧ Below w.heap.size w w' := by
  have hlt := h.blk.lt
  have i0 : ((xs.length : Int) == 0) = true := by simpa using h0
  have K := Lib.hid h
  clear h h0
  go_enter Try.func66, Try.ntmps66
  go_wp2_with fail
  refine wp_region_chain2 [0, 0, 0, 0, 1, 0, 0, 0, 0, 0, 0, 0, 0, 0, 0, 0, 0, 0, 0, 0] [[], [], [], [], [], [], [], [], [], [], [], [], [], [], [], [], [], [], [], []] [.is ?fan0, .is ?fan1, .is ?fan2, .is ?fan3, .kn ?fan4, .is ?fan5, .is ?fan6, .is ?fan7, .is undef, .is undef, .is undef, .is undef, .is undef, .is undef, .is undef, .is undef, .is undef, .is undef, .is undef, .is ?fan19] (by rfl) (by rfl) (by kernel_rfl) (by kernel_rfl) (by kernel_rfl) (by kernel_rfl) (by kernel_rfl) (by kernel_rfl) (lts_is (lts_is (lts_is (lts_is (lts_kn (lts_is (lts_is (lts_is (lts_is (lts_is (lts_is (lts_is (lts_is (lts_is (lts_is (lts_is (lts_is (lts_is (lts_is (lts_is lts_nil)))))))))))))))))))) (fun W0 hb0 hz0 => ?_)
  rotate_left 9
  rw [show lateIdx [0, 0, 0, 0, 1, 0, 0, 0, 0, 0, 0, 0, 0, 0, 0, 0, 0, 0, 0, 0] = [] from by rfl]
  have kW := K.out.blk.below_ hb0 hlt
  have zW := kW.lt
  have p0 : W0.cell? ⟨b, 0, none⟩ = some (.slice A1 xs.length c1) := (kW.cell_ 0).trans (by simp)
  refine chn_is (stp_pure (by rfl) ?yan0) ?ran0
  case yan0 =>
    intro w
    go_simp
    first | done | with_reducible rfl
  (try simp only [Act.put, List.setIfInBounds_toArray, List.set_cons_zero, List.set_cons_succ, List.nil_append, List.cons_append, Nat.reduceAdd])
  refine chn_is (stp_pure (by rfl) ?yan1) ?ran1
  case yan1 =>
    intro w
    go_simp
    first | done | with_reducible rfl
  (try simp only [Act.put, List.setIfInBounds_toArray, List.set_cons_zero, List.set_cons_succ, List.nil_append, List.cons_append, Nat.reduceAdd])
  refine chn_is (stp_pure (by rfl) ?yan2) ?ran2
  case yan2 =>
    intro w
    go_simp
    first | done | with_reducible rfl
  (try simp only [Act.put, List.setIfInBounds_toArray, List.set_cons_zero, List.set_cons_succ, List.nil_append, List.cons_append, Nat.reduceAdd])
  refine chn_is (stp_pure (by rfl) ?yan3) ?ran3
  case yan3 =>
    intro w
    go_simp
    first | done | with_reducible rfl
  (try simp only [Act.put, List.setIfInBounds_toArray, List.set_cons_zero, List.set_cons_succ, List.nil_append, List.cons_append, Nat.reduceAdd])
  refine chn_kn (stp_take (by rfl) ?yan4) ?ran4
  case yan4 =>
    intro w hbw hd
    have r0 := cell_keep hbw p0 zW
    clear hd
    go_simp
    first | done | with_reducible rfl
  (try simp only [Act.put, List.setIfInBounds_toArray, List.set_cons_zero, List.set_cons_succ, List.nil_append, List.cons_append, Nat.reduceAdd])
  refine chn_is (stp_pure (by rfl) ?yan5) ?ran5
  case yan5 =>
    intro w
    go_simp
    first | done | with_reducible rfl
  (try simp only [Act.put, List.setIfInBounds_toArray, List.set_cons_zero, List.set_cons_succ, List.nil_append, List.cons_append, Nat.reduceAdd])
  refine chn_is (stp_pure (by rfl) ?yan6) ?ran6
  case yan6 =>
    intro w
    go_simp
    first | done | with_reducible rfl
  (try simp only [Act.put, List.setIfInBounds_toArray, List.set_cons_zero, List.set_cons_succ, List.nil_append, List.cons_append, Nat.reduceAdd])
  refine chn_is (stp_pure (by rfl) ?yan7) ?ran7
  case yan7 =>
    intro w
    go_simp
    first | done | with_reducible rfl
  (try simp only [Act.put, List.setIfInBounds_toArray, List.set_cons_zero, List.set_cons_succ, List.nil_append, List.cons_append, Nat.reduceAdd])
  refine chn_is (stp_un (by rfl)) ?ran8
  (try simp only [Act.put, List.setIfInBounds_toArray, List.set_cons_zero, List.set_cons_succ, List.nil_append, List.cons_append, Nat.reduceAdd])
  refine chn_is (stp_un (by rfl)) ?ran9
  (try simp only [Act.put, List.setIfInBounds_toArray, List.set_cons_zero, List.set_cons_succ, List.nil_append, List.cons_append, Nat.reduceAdd])
  refine chn_is (stp_un (by rfl)) ?ran10
  (try simp only [Act.put, List.setIfInBounds_toArray, List.set_cons_zero, List.set_cons_succ, List.nil_append, List.cons_append, Nat.reduceAdd])
  refine chn_is (stp_un (by rfl)) ?ran11
  (try simp only [Act.put, List.setIfInBounds_toArray, List.set_cons_zero, List.set_cons_succ, List.nil_append, List.cons_append, Nat.reduceAdd])
  refine chn_is (stp_un (by rfl)) ?ran12
  (try simp only [Act.put, List.setIfInBounds_toArray, List.set_cons_zero, List.set_cons_succ, List.nil_append, List.cons_append, Nat.reduceAdd])
  refine chn_is (stp_un (by rfl)) ?ran13
  (try simp only [Act.put, List.setIfInBounds_toArray, List.set_cons_zero, List.set_cons_succ, List.nil_append, List.cons_append, Nat.reduceAdd])
  refine chn_is (stp_un (by rfl)) ?ran14
  (try simp only [Act.put, List.setIfInBounds_toArray, List.set_cons_zero, List.set_cons_succ, List.nil_append, List.cons_append, Nat.reduceAdd])
  refine chn_is (stp_un (by rfl)) ?ran15
  (try simp only [Act.put, List.setIfInBounds_toArray, List.set_cons_zero, List.set_cons_succ, List.nil_append, List.cons_append, Nat.reduceAdd])
  refine chn_is (stp_un (by rfl)) ?ran16
  (try simp only [Act.put, List.setIfInBounds_toArray, List.set_cons_zero, List.set_cons_succ, List.nil_append, List.cons_append, Nat.reduceAdd])
  refine chn_is (stp_un (by rfl)) ?ran17
  (try simp only [Act.put, List.setIfInBounds_toArray, List.set_cons_zero, List.set_cons_succ, List.nil_append, List.cons_append, Nat.reduceAdd])
  refine chn_is (stp_un (by rfl)) ?ran18
  (try simp only [Act.put, List.setIfInBounds_toArray, List.set_cons_zero, List.set_cons_succ, List.nil_append, List.cons_append, Nat.reduceAdd])
  refine chn_is (stp_pure (by rfl) ?yan19) ?ran19
  case yan19 =>
    intro w
    go_simp
    first | done | with_reducible rfl
  (try simp only [Act.put, List.setIfInBounds_toArray, List.set_cons_zero, List.set_cons_succ, List.nil_append, List.cons_append, Nat.reduceAdd])
  refine chn_end (fun wz lo hi hbz hd hR => ?_)
  have hbb := hb0.trans (hbz.mono hb0.size)
  clear hd hR hb0 hbz hz0 zW kW
  refine late_none ?_
  obtain ⟨x4, rfl⟩ : ∃ x4 : World, x4 = wz := ⟨_, rfl⟩
  clear p0
  go_wp2_with fail
  go_ret
  exact ⟨rfl, hbb⟩

set_option maxRecDepth 100000 in
set_option maxHeartbeats 4000000 in
theorem demote_full (b : Nat) (A1 A2 A3 : Option Addr) (c1 c2 c3 : Nat) (xs ys : List Int) (rs : List Bool) (T F : Int) (mv : List Int) (w : World) (h : WK w b A1 A2 A3 c1 c2 c3 xs ys rs T F mv) (h0 : 0 < xs.length) (h1 : (ys.length : Int) ≥ T) :
    Calls Try.prog 66 #[.pointer (some ⟨b, 0, none⟩)] w fun e w' => e = .returned (.bool false) ∧ Below w.heap.size w w' := by
  have hlt := h.blk.lt
  have i0 : ((xs.length : Int) == 0) = false := by rw [beq_eq_false_iff_ne]; omega
  have i1 : decide ((ys.length : Int) ≥ T) = true := by simpa using h1
  have i2 : T ≤ (ys.length : Int) := h1
  have K := Lib.hid h
  clear h h0 h1
  go_enter Try.func66, Try.ntmps66
  go_wp2_with fail
  refine wp_region_chain2 [0, 0, 0, 0, 1, 0, 0, 0, 0, 0, 0, 0, 1, 0, 0, 0, 0, 1, 0, 0] [[], [], [], [], [], [], [], [], [], [], [], [], [], [], [], [], [], [], [], []] [.is ?fan0, .is ?fan1, .is ?fan2, .is ?fan3, .kn ?fan4, .is ?fan5, .is ?fan6, .is ?fan7, .is ?fan8, .is ?fan9, .is ?fan10, .is ?fan11, .kn ?fan12, .is ?fan13, .is ?fan14, .is ?fan15, .is ?fan16, .kn ?fan17, .is ?fan18, .is ?fan19] (by rfl) (by rfl) (by kernel_rfl) (by kernel_rfl) (by kernel_rfl) (by kernel_rfl) (by kernel_rfl) (by kernel_rfl) (lts_is (lts_is (lts_is (lts_is (lts_kn (lts_is (lts_is (lts_is (lts_is (lts_is (lts_is (lts_is (lts_kn (lts_is (lts_is (lts_is (lts_is (lts_kn (lts_is (lts_is lts_nil)))))))))))))))))))) (fun W0 hb0 hz0 => ?_)
  rotate_left 20
  rw [show lateIdx [0, 0, 0, 0, 1, 0, 0, 0, 0, 0, 0, 0, 1, 0, 0, 0, 0, 1, 0, 0] = [] from by rfl]
  have kW := K.out.blk.below_ hb0 hlt
  have zW := kW.lt
  have p0 : W0.cell? ⟨b, 0, none⟩ = some (.slice A1 xs.length c1) := (kW.cell_ 0).trans (by simp)
  have p1 : W0.cell? ⟨b, 1, none⟩ = some (.slice A2 ys.length c2) := (kW.cell_ 1).trans (by simp)
  have p3 : W0.cell? ⟨b, 3, none⟩ = some (.int .i64 T) := (kW.cell_ 3).trans (by simp)
  refine chn_is (stp_pure (by rfl) ?yan0) ?ran0
  case yan0 =>
    intro w
    go_simp
    first | done | with_reducible rfl
  (try simp only [Act.put, List.setIfInBounds_toArray, List.set_cons_zero, List.set_cons_succ, List.nil_append, List.cons_append, Nat.reduceAdd])
  refine chn_is (stp_pure (by rfl) ?yan1) ?ran1
  case yan1 =>
    intro w
    go_simp
    first | done | with_reducible rfl
  (try simp only [Act.put, List.setIfInBounds_toArray, List.set_cons_zero, List.set_cons_succ, List.nil_append, List.cons_append, Nat.reduceAdd])
  refine chn_is (stp_pure (by rfl) ?yan2) ?ran2
  case yan2 =>
    intro w
    go_simp
    first | done | with_reducible rfl
  (try simp only [Act.put, List.setIfInBounds_toArray, List.set_cons_zero, List.set_cons_succ, List.nil_append, List.cons_append, Nat.reduceAdd])
  refine chn_is (stp_pure (by rfl) ?yan3) ?ran3
  case yan3 =>
    intro w
    go_simp
    first | done | with_reducible rfl
  (try simp only [Act.put, List.setIfInBounds_toArray, List.set_cons_zero, List.set_cons_succ, List.nil_append, List.cons_append, Nat.reduceAdd])
  refine chn_kn (stp_take (by rfl) ?yan4) ?ran4
  case yan4 =>
    intro w hbw hd
    have r0 := cell_keep hbw p0 zW
    clear hd
    go_simp
    first | done | with_reducible rfl
  (try simp only [Act.put, List.setIfInBounds_toArray, List.set_cons_zero, List.set_cons_succ, List.nil_append, List.cons_append, Nat.reduceAdd])
  refine chn_is (stp_pure (by rfl) ?yan5) ?ran5
  case yan5 =>
    intro w
    go_simp
    first | done | with_reducible rfl
  (try simp only [Act.put, List.setIfInBounds_toArray, List.set_cons_zero, List.set_cons_succ, List.nil_append, List.cons_append, Nat.reduceAdd])
  refine chn_is (stp_pure (by rfl) ?yan6) ?ran6
  case yan6 =>
    intro w
    go_simp
    first | done | with_reducible rfl
  (try simp only [Act.put, List.setIfInBounds_toArray, List.set_cons_zero, List.set_cons_succ, List.nil_append, List.cons_append, Nat.reduceAdd])
  refine chn_is (stp_pure (by rfl) ?yan7) ?ran7
  case yan7 =>
    intro w
    go_simp
    first | done | with_reducible rfl
  (try simp only [Act.put, List.setIfInBounds_toArray, List.set_cons_zero, List.set_cons_succ, List.nil_append, List.cons_append, Nat.reduceAdd])
  refine chn_is (stp_pure (by rfl) ?yan8) ?ran8
  case yan8 =>
    intro w
    go_simp
    first | done | with_reducible rfl
  (try simp only [Act.put, List.setIfInBounds_toArray, List.set_cons_zero, List.set_cons_succ, List.nil_append, List.cons_append, Nat.reduceAdd])
  refine chn_is (stp_pure (by rfl) ?yan9) ?ran9
  case yan9 =>
    intro w
    go_simp
    first | done | with_reducible rfl
  (try simp only [Act.put, List.setIfInBounds_toArray, List.set_cons_zero, List.set_cons_succ, List.nil_append, List.cons_append, Nat.reduceAdd])
  refine chn_is (stp_pure (by rfl) ?yan10) ?ran10
  case yan10 =>
    intro w
    go_simp
    first | done | with_reducible rfl
  (try simp only [Act.put, List.setIfInBounds_toArray, List.set_cons_zero, List.set_cons_succ, List.nil_append, List.cons_append, Nat.reduceAdd])
  refine chn_is (stp_pure (by rfl) ?yan11) ?ran11
  case yan11 =>
    intro w
    go_simp
    first | done | with_reducible rfl
  (try simp only [Act.put, List.setIfInBounds_toArray, List.set_cons_zero, List.set_cons_succ, List.nil_append, List.cons_append, Nat.reduceAdd])
  refine chn_kn (stp_take (by rfl) ?yan12) ?ran12
  case yan12 =>
    intro w hbw hd
    have r1 := cell_keep hbw p1 zW
    clear hd
    go_simp
    first | done | with_reducible rfl
  (try simp only [Act.put, List.setIfInBounds_toArray, List.set_cons_zero, List.set_cons_succ, List.nil_append, List.cons_append, Nat.reduceAdd])
  refine chn_is (stp_pure (by rfl) ?yan13) ?ran13
  case yan13 =>
    intro w
    go_simp
    first | done | with_reducible rfl
  (try simp only [Act.put, List.setIfInBounds_toArray, List.set_cons_zero, List.set_cons_succ, List.nil_append, List.cons_append, Nat.reduceAdd])
  refine chn_is (stp_pure (by rfl) ?yan14) ?ran14
  case yan14 =>
    intro w
    go_simp
    first | done | with_reducible rfl
  (try simp only [Act.put, List.setIfInBounds_toArray, List.set_cons_zero, List.set_cons_succ, List.nil_append, List.cons_append, Nat.reduceAdd])
  refine chn_is (stp_pure (by rfl) ?yan15) ?ran15
  case yan15 =>
    intro w
    go_simp
    first | done | with_reducible rfl
  (try simp only [Act.put, List.setIfInBounds_toArray, List.set_cons_zero, List.set_cons_succ, List.nil_append, List.cons_append, Nat.reduceAdd])
  refine chn_is (stp_pure (by rfl) ?yan16) ?ran16
  case yan16 =>
    intro w
    go_simp
    first | done | with_reducible rfl
  (try simp only [Act.put, List.setIfInBounds_toArray, List.set_cons_zero, List.set_cons_succ, List.nil_append, List.cons_append, Nat.reduceAdd])
  refine chn_kn (stp_take (by rfl) ?yan17) ?ran17
  case yan17 =>
    intro w hbw hd
    have r3 := cell_keep hbw p3 zW
    clear hd
    go_simp
    first | done | with_reducible rfl
  (try simp only [Act.put, List.setIfInBounds_toArray, List.set_cons_zero, List.set_cons_succ, List.nil_append, List.cons_append, Nat.reduceAdd])
  refine chn_is (stp_pure (by rfl) ?yan18) ?ran18
  case yan18 =>
    intro w
    go_simp
    first | done | with_reducible rfl
  (try simp only [Act.put, List.setIfInBounds_toArray, List.set_cons_zero, List.set_cons_succ, List.nil_append, List.cons_append, Nat.reduceAdd])
  refine chn_is (stp_pure (by rfl) ?yan19) ?ran19
  case yan19 =>
    intro w
    go_simp
    first | done | with_reducible rfl
  (try simp only [Act.put, List.setIfInBounds_toArray, List.set_cons_zero, List.set_cons_succ, List.nil_append, List.cons_append, Nat.reduceAdd])
  refine chn_end (fun wz lo hi hbz hd hR => ?_)
  have hbb := hb0.trans (hbz.mono hb0.size)
  clear hd hR hb0 hbz hz0 zW kW
  refine late_none ?_
  obtain ⟨x4, rfl⟩ : ∃ x4 : World, x4 = wz := ⟨_, rfl⟩
  clear p0 p1 p3
  go_wp2_with fail
  go_ret
  exact ⟨rfl, hbb⟩

/-- A walk behind a step that moved a frame. -/
def MvPost (b : Nat) (us vs : List Int) (ss : List Bool) (T f : Int) (mv : List Int) (w : World) (e : Ending) (w' : World) : Prop :=
  e = .returned (.bool true) ∧ ∃ B1 B2 B3 d1 d2 d3, WK w' b B1 B2 B3 d1 d2 d3 us vs ss T f (f :: mv) ∧ NewL w.heap.size B1 B2 B3 ∧ Aside (fun k => k = b) w w'

set_option maxRecDepth 100000 in
set_option maxHeartbeats 4000000 in
theorem demote_yes (b : Nat) (A1 A2 A3 : Option Addr) (c1 c2 c3 : Nat) (xs ys : List Int) (rs : List Bool) (T F : Int) (mv : List Int) (w : World) (h : WK w b A1 A2 A3 c1 c2 c3 xs ys rs T F mv) (hc : lruChk xs ys rs = 0) (h0 : 0 < xs.length) (h1 : (ys.length : Int) < T) :
    Calls Try.prog 66 #[.pointer (some ⟨b, 0, none⟩)] w (MvPost b (dX xs ys) (dY xs ys) (rs.set (lastF xs).toNat false) T (lastF xs) mv w) := by
  have hlt := h.blk.lt
  have i0 : ((xs.length : Int) == 0) = false := by rw [beq_eq_false_iff_ne]; omega
  have i1 : decide ((ys.length : Int) ≥ T) = false := by simp; omega
  have i2 : ¬ T ≤ (ys.length : Int) := by omega
  have hv := valid_of_chk hc
  obtain ⟨f, hf⟩ : ∃ f, lastF xs = f := ⟨_, rfl⟩
  have hf2 : 0 ≤ f ∧ f < 256 := by
    have := hv.range (lastF xs) (by simp [lastF_mem h0])
    have := hv.hi
    rw [hf] at *
    omega
  have HD : Hid (demS xs ys rs = ⟨dX xs ys, dY xs ys, rs.set f.toNat false, 0⟩ ∧ demF xs ys rs = f) := by
    refine ⟨?_, ?_⟩
    · unfold demS; rw [if_neg (by simpa using hc), if_neg (by omega), hf]
    · unfold demF; rw [if_neg (by simpa using hc), if_neg (by omega), hf]
  have K := Lib.hid h
  clear h hc hv h1
  rw [hf]
  clear hf
  obtain ⟨us, hus⟩ : ∃ l, dX xs ys = l := ⟨_, rfl⟩
  obtain ⟨vs, hvs⟩ : ∃ l, dY xs ys = l := ⟨_, rfl⟩
  obtain ⟨ss, hss⟩ : ∃ l, rs.set f.toNat false = l := ⟨_, rfl⟩
  rw [hus, hvs, hss] at HD
  rw [hus, hvs, hss]
  clear hus hvs hss
  go_enter Try.func66, Try.ntmps66
  go_wp2_with fail
  refine wp_region_chain2 [0, 0, 0, 0, 1, 0, 0, 0, 0, 0, 0, 0, 1, 0, 0, 0, 0, 1, 0, 0] [[], [], [], [], [], [], [], [], [], [], [], [], [], [], [], [], [], [], [], []] [.is ?fan0, .is ?fan1, .is ?fan2, .is ?fan3, .kn ?fan4, .is ?fan5, .is ?fan6, .is ?fan7, .is ?fan8, .is ?fan9, .is ?fan10, .is ?fan11, .kn ?fan12, .is ?fan13, .is ?fan14, .is ?fan15, .is ?fan16, .kn ?fan17, .is ?fan18, .is ?fan19] (by rfl) (by rfl) (by kernel_rfl) (by kernel_rfl) (by kernel_rfl) (by kernel_rfl) (by kernel_rfl) (by kernel_rfl) (lts_is (lts_is (lts_is (lts_is (lts_kn (lts_is (lts_is (lts_is (lts_is (lts_is (lts_is (lts_is (lts_kn (lts_is (lts_is (lts_is (lts_is (lts_kn (lts_is (lts_is lts_nil)))))))))))))))))))) (fun W0 hb0 hz0 => ?_)
  rotate_left 20
  rw [show lateIdx [0, 0, 0, 0, 1, 0, 0, 0, 0, 0, 0, 0, 1, 0, 0, 0, 0, 1, 0, 0] = [] from by rfl]
  have kW := K.out.blk.below_ hb0 hlt
  have zW := kW.lt
  have p0 : W0.cell? ⟨b, 0, none⟩ = some (.slice A1 xs.length c1) := (kW.cell_ 0).trans (by simp)
  have p1 : W0.cell? ⟨b, 1, none⟩ = some (.slice A2 ys.length c2) := (kW.cell_ 1).trans (by simp)
  have p3 : W0.cell? ⟨b, 3, none⟩ = some (.int .i64 T) := (kW.cell_ 3).trans (by simp)
  refine chn_is (stp_pure (by rfl) ?yan0) ?ran0
  case yan0 =>
    intro w
    go_simp
    first | done | with_reducible rfl
  (try simp only [Act.put, List.setIfInBounds_toArray, List.set_cons_zero, List.set_cons_succ, List.nil_append, List.cons_append, Nat.reduceAdd])
  refine chn_is (stp_pure (by rfl) ?yan1) ?ran1
  case yan1 =>
    intro w
    go_simp
    first | done | with_reducible rfl
  (try simp only [Act.put, List.setIfInBounds_toArray, List.set_cons_zero, List.set_cons_succ, List.nil_append, List.cons_append, Nat.reduceAdd])
  refine chn_is (stp_pure (by rfl) ?yan2) ?ran2
  case yan2 =>
    intro w
    go_simp
    first | done | with_reducible rfl
  (try simp only [Act.put, List.setIfInBounds_toArray, List.set_cons_zero, List.set_cons_succ, List.nil_append, List.cons_append, Nat.reduceAdd])
  refine chn_is (stp_pure (by rfl) ?yan3) ?ran3
  case yan3 =>
    intro w
    go_simp
    first | done | with_reducible rfl
  (try simp only [Act.put, List.setIfInBounds_toArray, List.set_cons_zero, List.set_cons_succ, List.nil_append, List.cons_append, Nat.reduceAdd])
  refine chn_kn (stp_take (by rfl) ?yan4) ?ran4
  case yan4 =>
    intro w hbw hd
    have r0 := cell_keep hbw p0 zW
    clear hd
    go_simp
    first | done | with_reducible rfl
  (try simp only [Act.put, List.setIfInBounds_toArray, List.set_cons_zero, List.set_cons_succ, List.nil_append, List.cons_append, Nat.reduceAdd])
  refine chn_is (stp_pure (by rfl) ?yan5) ?ran5
  case yan5 =>
    intro w
    go_simp
    first | done | with_reducible rfl
  (try simp only [Act.put, List.setIfInBounds_toArray, List.set_cons_zero, List.set_cons_succ, List.nil_append, List.cons_append, Nat.reduceAdd])
  refine chn_is (stp_pure (by rfl) ?yan6) ?ran6
  case yan6 =>
    intro w
    go_simp
    first | done | with_reducible rfl
  (try simp only [Act.put, List.setIfInBounds_toArray, List.set_cons_zero, List.set_cons_succ, List.nil_append, List.cons_append, Nat.reduceAdd])
  refine chn_is (stp_pure (by rfl) ?yan7) ?ran7
  case yan7 =>
    intro w
    go_simp
    first | done | with_reducible rfl
  (try simp only [Act.put, List.setIfInBounds_toArray, List.set_cons_zero, List.set_cons_succ, List.nil_append, List.cons_append, Nat.reduceAdd])
  refine chn_is (stp_pure (by rfl) ?yan8) ?ran8
  case yan8 =>
    intro w
    go_simp
    first | done | with_reducible rfl
  (try simp only [Act.put, List.setIfInBounds_toArray, List.set_cons_zero, List.set_cons_succ, List.nil_append, List.cons_append, Nat.reduceAdd])
  refine chn_is (stp_pure (by rfl) ?yan9) ?ran9
  case yan9 =>
    intro w
    go_simp
    first | done | with_reducible rfl
  (try simp only [Act.put, List.setIfInBounds_toArray, List.set_cons_zero, List.set_cons_succ, List.nil_append, List.cons_append, Nat.reduceAdd])
  refine chn_is (stp_pure (by rfl) ?yan10) ?ran10
  case yan10 =>
    intro w
    go_simp
    first | done | with_reducible rfl
  (try simp only [Act.put, List.setIfInBounds_toArray, List.set_cons_zero, List.set_cons_succ, List.nil_append, List.cons_append, Nat.reduceAdd])
  refine chn_is (stp_pure (by rfl) ?yan11) ?ran11
  case yan11 =>
    intro w
    go_simp
    first | done | with_reducible rfl
  (try simp only [Act.put, List.setIfInBounds_toArray, List.set_cons_zero, List.set_cons_succ, List.nil_append, List.cons_append, Nat.reduceAdd])
  refine chn_kn (stp_take (by rfl) ?yan12) ?ran12
  case yan12 =>
    intro w hbw hd
    have r1 := cell_keep hbw p1 zW
    clear hd
    go_simp
    first | done | with_reducible rfl
  (try simp only [Act.put, List.setIfInBounds_toArray, List.set_cons_zero, List.set_cons_succ, List.nil_append, List.cons_append, Nat.reduceAdd])
  refine chn_is (stp_pure (by rfl) ?yan13) ?ran13
  case yan13 =>
    intro w
    go_simp
    first | done | with_reducible rfl
  (try simp only [Act.put, List.setIfInBounds_toArray, List.set_cons_zero, List.set_cons_succ, List.nil_append, List.cons_append, Nat.reduceAdd])
  refine chn_is (stp_pure (by rfl) ?yan14) ?ran14
  case yan14 =>
    intro w
    go_simp
    first | done | with_reducible rfl
  (try simp only [Act.put, List.setIfInBounds_toArray, List.set_cons_zero, List.set_cons_succ, List.nil_append, List.cons_append, Nat.reduceAdd])
  refine chn_is (stp_pure (by rfl) ?yan15) ?ran15
  case yan15 =>
    intro w
    go_simp
    first | done | with_reducible rfl
  (try simp only [Act.put, List.setIfInBounds_toArray, List.set_cons_zero, List.set_cons_succ, List.nil_append, List.cons_append, Nat.reduceAdd])
  refine chn_is (stp_pure (by rfl) ?yan16) ?ran16
  case yan16 =>
    intro w
    go_simp
    first | done | with_reducible rfl
  (try simp only [Act.put, List.setIfInBounds_toArray, List.set_cons_zero, List.set_cons_succ, List.nil_append, List.cons_append, Nat.reduceAdd])
  refine chn_kn (stp_take (by rfl) ?yan17) ?ran17
  case yan17 =>
    intro w hbw hd
    have r3 := cell_keep hbw p3 zW
    clear hd
    go_simp
    first | done | with_reducible rfl
  (try simp only [Act.put, List.setIfInBounds_toArray, List.set_cons_zero, List.set_cons_succ, List.nil_append, List.cons_append, Nat.reduceAdd])
  refine chn_is (stp_pure (by rfl) ?yan18) ?ran18
  case yan18 =>
    intro w
    go_simp
    first | done | with_reducible rfl
  (try simp only [Act.put, List.setIfInBounds_toArray, List.set_cons_zero, List.set_cons_succ, List.nil_append, List.cons_append, Nat.reduceAdd])
  refine chn_is (stp_pure (by rfl) ?yan19) ?ran19
  case yan19 =>
    intro w
    go_simp
    first | done | with_reducible rfl
  (try simp only [Act.put, List.setIfInBounds_toArray, List.set_cons_zero, List.set_cons_succ, List.nil_append, List.cons_append, Nat.reduceAdd])
  refine chn_end (fun wz lo hi hbz hd hR => ?_)
  have hbb := hb0.trans (hbz.mono hb0.size)
  clear hd hR hb0 hbz hz0 zW kW
  refine late_none ?_
  obtain ⟨x4, rfl⟩ : ∃ x4 : World, x4 = wz := ⟨_, rfl⟩
  clear p0 p1 p3
  have K4 := Lib.hid (K.out.below hbb)
  have k4 := K4.out.blk
  have q0 : x4.cell? ⟨b, 0, none⟩ = some (.slice A1 xs.length c1) := (k4.cell_ 0).trans (by simp)
  have q1 : x4.cell? ⟨b, 1, none⟩ = some (.slice A2 ys.length c2) := (k4.cell_ 1).trans (by simp)
  have q2 : x4.cell? ⟨b, 2, none⟩ = some (.slice A3 rs.length c3) := (k4.cell_ 2).trans (by simp)
  have kl := k4.lt
  have zz := hbb.size
  clear k4 K
  go_wp2_with fail
  refine (Demote_S A1 A2 A3 c1 c2 c3 xs ys rs _ K4.out.mem).mono ?_
  rw [HD.out.1, HD.out.2]
  rintro e x5 ⟨B1, d1, B2, d2, B3, d3, rfl, hm5, hn5, hb5⟩
  dsimp only at hm5 hn5 ⊢
  have HM5 := Lib.hid hm5; have HN5 := Lib.hid hn5; have HB5 := Lib.hid hb5
  have K5 := Lib.hid (K4.out.below hb5)
  have hlt5 := K5.out.blk.lt
  clear hm5 hn5 hb5 q0 q1 q2 K4
  go_wp2_with fail
  obtain ⟨V, hV⟩ : ∃ V, x5.alloc (.cells #[.slice B1 us.length d1, .slice B2 vs.length d2, .slice B3 ss.length d3] 25) = V := ⟨_, rfl⟩
  have hbV : Below x5.heap.size x5 V := by rw [← hV]; exact (Below.refl _ _).alloc (Nat.le_refl _) _
  have KV := K5.out.below hbV
  refine (move_any b A1 A2 A3 B1 B2 B3 c1 c2 c3 d1 d2 d3 xs ys us vs rs ss T F f mv _ (by rw [hV]; exact KV) (by rw [hV]; exact HM5.out.ext hbV) (HN5.out.neB kl us vs ss) hf2.1 hf2.2).mono ?_
  rintro e x6 ⟨rfl, k6, a6⟩
  rw [hV] at a6
  go_wp2_with fail
  go_ret
  refine ⟨rfl, B1, B2, B3, d1, d2, d3, k6, ⟨fun g e => by have := HN5.out.a g e; omega, fun g e => by have := HN5.out.i g e; omega, fun g e => by have := HN5.out.r g e; omega⟩, ?_⟩
  exact (Aside.of_below (hbb.trans ((HB5.out.trans (hbV.mono HB5.out.size)).mono zz))).trans a6
end Go.Proofs.Ytiobbdfkimpfbaa
