/- Contracts of package scan: promote, find. Written by gen_scb.py. -/
import Derived.Test.YtiobbdfkimpfbaaScC
namespace Go.Proofs.Ytiobbdfkimpfbaa
open Go.RowKit Go.Maps

set_option maxRecDepth 100000 in
set_option maxHeartbeats 4000000 in
theorem promote_none (b : Nat) (A1 A2 A3 : Option Addr) (c1 c2 c3 : Nat) (xs ys : List Int) (rs : List Bool) (T F : Int) (mv : List Int) (w : World) (h : WK w b A1 A2 A3 c1 c2 c3 xs ys rs T F mv) (h0 : ys.length = 0) :
    Calls Try.prog 67 #[.pointer (some ⟨b, 0, none⟩)] w fun e w' => e = .returned (.bool false) ∧ Below w.heap.size w w' := by
  have hlt := h.blk.lt
  have i0 : ((ys.length : Int) == 0) = true := by simpa using h0
  have K := Lib.hid h
  have q1 : w.cell? ⟨b, 1, none⟩ = some (.slice A2 ys.length c2) := (h.blk.cell_ 1).trans (by simp)
  clear h h0
  go_enter Try.func67, Try.ntmps67
  go_wp2_with fail
  clear q1
  refine wp_region_chain2 [0, 0, 0, 0, 0, 0, 0, 0, 0, 0, 0, 0, 0, 0, 0, 0, 0, 0, 0, 0, 0] [[], [], [], [], [], [], [], [], [], [], [], [], [], [], [], [], [], [], [], [], []] [.is ?fan0, .is ?fan1, .is ?fan2, .is undef, .is undef, .is undef, .is undef, .is undef, .is undef, .is undef, .is undef, .is undef, .is undef, .is undef, .is undef, .is undef, .is undef, .is undef, .is undef, .is undef, .is ?fan20] (by rfl) (by rfl) (by kernel_rfl) (by kernel_rfl) (by kernel_rfl) (by kernel_rfl) (by kernel_rfl) (by kernel_rfl) (lts_is (lts_is (lts_is (lts_is (lts_is (lts_is (lts_is (lts_is (lts_is (lts_is (lts_is (lts_is (lts_is (lts_is (lts_is (lts_is (lts_is (lts_is (lts_is (lts_is (lts_is lts_nil))))))))))))))))))))) (fun W0 hb0 hz0 => ?_)
  rotate_left 4
  rw [show lateIdx [0, 0, 0, 0, 0, 0, 0, 0, 0, 0, 0, 0, 0, 0, 0, 0, 0, 0, 0, 0, 0] = [] from by rfl]
  have kW := K.out.blk.below_ hb0 hlt
  have zW := kW.lt
  refine chn_is (stp_pure (by rfl) ?yan0) ?ran0
  case yan0 =>
    intro w
    go_simp
    first | done | with_reducible rfl
  (try simp only [Act.put, List.setIfInBounds_toArray, List.set_cons_zero, List.set_cons_succ, List.nil_append, List.cons_append, Nat.reduceAdd])
  refine chn_is (stp_pure (by rfl) ?yan1) ?ran1
  case yan1 =>
    intro w
    go_simp
    first | done | with_reducible rfl
  (try simp only [Act.put, List.setIfInBounds_toArray, List.set_cons_zero, List.set_cons_succ, List.nil_append, List.cons_append, Nat.reduceAdd])
  refine chn_is (stp_pure (by rfl) ?yan2) ?ran2
  case yan2 =>
    intro w
    go_simp
    first | done | with_reducible rfl
  (try simp only [Act.put, List.setIfInBounds_toArray, List.set_cons_zero, List.set_cons_succ, List.nil_append, List.cons_append, Nat.reduceAdd])
  refine chn_is (stp_un (by rfl)) ?ran3
  (try simp only [Act.put, List.setIfInBounds_toArray, List.set_cons_zero, List.set_cons_succ, List.nil_append, List.cons_append, Nat.reduceAdd])
  refine chn_is (stp_un (by rfl)) ?ran4
  (try simp only [Act.put, List.setIfInBounds_toArray, List.set_cons_zero, List.set_cons_succ, List.nil_append, List.cons_append, Nat.reduceAdd])
  refine chn_is (stp_un (by rfl)) ?ran5
  (try simp only [Act.put, List.setIfInBounds_toArray, List.set_cons_zero, List.set_cons_succ, List.nil_append, List.cons_append, Nat.reduceAdd])
  refine chn_is (stp_un (by rfl)) ?ran6
  (try simp only [Act.put, List.setIfInBounds_toArray, List.set_cons_zero, List.set_cons_succ, List.nil_append, List.cons_append, Nat.reduceAdd])
  refine chn_is (stp_un (by rfl)) ?ran7
  (try simp only [Act.put, List.setIfInBounds_toArray, List.set_cons_zero, List.set_cons_succ, List.nil_append, List.cons_append, Nat.reduceAdd])
  refine chn_is (stp_un (by rfl)) ?ran8
  (try simp only [Act.put, List.setIfInBounds_toArray, List.set_cons_zero, List.set_cons_succ, List.nil_append, List.cons_append, Nat.reduceAdd])
  refine chn_is (stp_un (by rfl)) ?ran9
  (try simp only [Act.put, List.setIfInBounds_toArray, List.set_cons_zero, List.set_cons_succ, List.nil_append, List.cons_append, Nat.reduceAdd])
  refine chn_is (stp_un (by rfl)) ?ran10
  (try simp only [Act.put, List.setIfInBounds_toArray, List.set_cons_zero, List.set_cons_succ, List.nil_append, List.cons_append, Nat.reduceAdd])
  refine chn_is (stp_un (by rfl)) ?ran11
  (try simp only [Act.put, List.setIfInBounds_toArray, List.set_cons_zero, List.set_cons_succ, List.nil_append, List.cons_append, Nat.reduceAdd])
  refine chn_is (stp_un (by rfl)) ?ran12
  (try simp only [Act.put, List.setIfInBounds_toArray, List.set_cons_zero, List.set_cons_succ, List.nil_append, List.cons_append, Nat.reduceAdd])
  refine chn_is (stp_un (by rfl)) ?ran13
  (try simp only [Act.put, List.setIfInBounds_toArray, List.set_cons_zero, List.set_cons_succ, List.nil_append, List.cons_append, Nat.reduceAdd])
  refine chn_is (stp_un (by rfl)) ?ran14
  (try simp only [Act.put, List.setIfInBounds_toArray, List.set_cons_zero, List.set_cons_succ, List.nil_append, List.cons_append, Nat.reduceAdd])
  refine chn_is (stp_un (by rfl)) ?ran15
  (try simp only [Act.put, List.setIfInBounds_toArray, List.set_cons_zero, List.set_cons_succ, List.nil_append, List.cons_append, Nat.reduceAdd])
  refine chn_is (stp_un (by rfl)) ?ran16
  (try simp only [Act.put, List.setIfInBounds_toArray, List.set_cons_zero, List.set_cons_succ, List.nil_append, List.cons_append, Nat.reduceAdd])
  refine chn_is (stp_un (by rfl)) ?ran17
  (try simp only [Act.put, List.setIfInBounds_toArray, List.set_cons_zero, List.set_cons_succ, List.nil_append, List.cons_append, Nat.reduceAdd])
  refine chn_is (stp_un (by rfl)) ?ran18
  (try simp only [Act.put, List.setIfInBounds_toArray, List.set_cons_zero, List.set_cons_succ, List.nil_append, List.cons_append, Nat.reduceAdd])
  refine chn_is (stp_un (by rfl)) ?ran19
  (try simp only [Act.put, List.setIfInBounds_toArray, List.set_cons_zero, List.set_cons_succ, List.nil_append, List.cons_append, Nat.reduceAdd])
  refine chn_is (stp_pure (by rfl) ?yan20) ?ran20
  case yan20 =>
    intro w
    go_simp
    first | done | with_reducible rfl
  (try simp only [Act.put, List.setIfInBounds_toArray, List.set_cons_zero, List.set_cons_succ, List.nil_append, List.cons_append, Nat.reduceAdd])
  refine chn_end (fun wz lo hi hbz hd hR => ?_)
  have hbb := hb0.trans (hbz.mono hb0.size)
  clear hd hR hb0 hbz hz0 zW kW
  refine late_none ?_
  obtain ⟨x4, rfl⟩ : ∃ x4 : World, x4 = wz := ⟨_, rfl⟩
  go_wp2_with fail
  go_ret
  exact ⟨rfl, hbb⟩

/-- The last inactive frame's bit. -/
def lastB (ys : List Int) (rs : List Bool) : Bool := rs.getD (lastF ys).toNat false
theorem bit_at {w : World} {A : Option Addr} {rs : List Bool} {f : Int} (h : Sl w .bool A rs) (h0 : 0 ≤ f) (h1 : f < rs.length) :
    ∃ b off, A = some ⟨b, off, none⟩ ∧ b < w.heap.size ∧ w.cell? ⟨b, off + f.toNat, none⟩ = some (.bool (rs.getD f.toNat false)) := by
  obtain ⟨b, off, x, rfl, hb, hx, hc⟩ := h.at_ (k := f.toNat) (by omega)
  exact ⟨b, off, rfl, hb, by rw [List.getD_eq_getElem?_getD, hx]; exact hc⟩
theorem last_at {w : World} {A : Option Addr} {ys : List Int} (h : Sl w (.int .i64) A ys) (h0 : 0 < ys.length) :
    ∃ b off, A = some ⟨b, off, none⟩ ∧ b < w.heap.size ∧ w.cell? ⟨b, off + (ys.length - 1), none⟩ = some (.int .i64 (lastF ys)) := by
  obtain ⟨b, off, x, rfl, hb, hx, hc⟩ := h.at_ (k := ys.length - 1) (by omega)
  exact ⟨b, off, rfl, hb, by unfold lastF; rw [List.getD_eq_getElem?_getD, hx]; exact hc⟩

set_option maxRecDepth 100000 in
set_option maxHeartbeats 4000000 in
theorem promote_no (b : Nat) (A1 A2 A3 : Option Addr) (c1 c2 c3 : Nat) (xs ys : List Int) (rs : List Bool) (T F : Int) (mv : List Int) (w : World) (h : WK w b A1 A2 A3 c1 c2 c3 xs ys rs T F mv) (hc : lruChk xs ys rs = 0) (h0 : 0 < ys.length) (hb : lastB ys rs = false) :
    Calls Try.prog 67 #[.pointer (some ⟨b, 0, none⟩)] w fun e w' => e = .returned (.bool false) ∧ Below w.heap.size w w' := by
  have hlt := h.blk.lt
  have hv := valid_of_chk hc
  have hll : ys.length ≤ 256 := by have := hv.len; have := hv.hi; omega
  have i0 : ((ys.length : Int) == 0) = false := by rw [beq_eq_false_iff_ne]; omega
  have q1 : w.cell? ⟨b, 1, none⟩ = some (.slice A2 ys.length c2) := (h.blk.cell_ 1).trans (by simp)
  have K := Lib.hid h
  obtain ⟨f, hf⟩ : ∃ f, lastF ys = f := ⟨_, rfl⟩
  have hin := hv.range (lastF ys) (by simp [lastF_mem h0])
  have hf2 := hv.hi
  rw [hf] at hin
  obtain ⟨bL, oL, rfl, hbL, hcL⟩ := last_at h.mem.i h0
  rw [hf] at hcL
  obtain ⟨bR, oR, rfl, hbR, hcR⟩ := bit_at h.mem.r hin.1 hin.2
  unfold lastB at hb
  rw [hf] at hb
  obtain ⟨G, rfl⟩ : ∃ G : Nat, f = G := ⟨f.toNat, by omega⟩
  rw [Int.toNat_natCast] at hcR hb
  have hG : (G : Int) < rs.length := hin.2
  have hG2 : rs.length ≤ 256 := hf2
  clear hf2
  rw [hb] at hcR
  clear h hc hb hv hin hf
  obtain ⟨n, hn⟩ : ∃ n : Nat, ys.length = n + 1 := ⟨ys.length - 1, by omega⟩
  rw [hn] at hcL hll q1 i0
  have HNN := Lib.hid hn
  have hwn : IntKind.i64.wrap (n : Int) = n := by rw [IntKind.wrap_i64]; omega
  have hwg : IntKind.i64.wrap (G : Int) = G := by rw [IntKind.wrap_i64]; omega
  have hnn : (n : Int) < n + 1 := by omega
  clear hn h0
  rw [show n + 1 - 1 = n by omega] at hcL
  go_enter Try.func67, Try.ntmps67
  go_wp2_with fail
  clear q1
  refine wp_region_chain2 [0, 0, 0, 0, 0, 0, 0, 1, 0, 0, 0, 0, 1, 0, 0, 0, 1, 0, 1, 0, 0] [[], [], [], [], [], [], [], [], [], [], [], [], [], [], [], [], [], [], [], [], []] [.is ?fan0, .is ?fan1, .is ?fan2, .is ?fan3, .is ?fan4, .is ?fan5, .is ?fan6, .kn ?fan7, .is ?fan8, .is ?fan9, .is ?fan10, .is ?fan11, .kn ?fan12, .is ?fan13, .is ?fan14, .is ?fan15, .kn ?fan16, .is ?fan17, .kn ?fan18, .is ?fan19, .is ?fan20] (by rfl) (by rfl) (by kernel_rfl) (by kernel_rfl) (by kernel_rfl) (by kernel_rfl) (by kernel_rfl) (by kernel_rfl) (lts_is (lts_is (lts_is (lts_is (lts_is (lts_is (lts_is (lts_kn (lts_is (lts_is (lts_is (lts_is (lts_kn (lts_is (lts_is (lts_is (lts_kn (lts_is (lts_kn (lts_is (lts_is lts_nil))))))))))))))))))))) (fun W0 hb0 hz0 => ?_)
  rotate_left 21
  rw [show lateIdx [0, 0, 0, 0, 0, 0, 0, 1, 0, 0, 0, 0, 1, 0, 0, 0, 1, 0, 1, 0, 0] = [] from by rfl]
  have kW := K.out.blk.below_ hb0 hlt
  have zW := kW.lt
  have p1 : W0.cell? ⟨b, 1, none⟩ = some (.slice (some ⟨bL, oL, none⟩) (n + 1) c2) := (kW.cell_ 1).trans (by simp [HNN.out])
  have p2 : W0.cell? ⟨b, 2, none⟩ = some (.slice (some ⟨bR, oR, none⟩) rs.length c3) := (kW.cell_ 2).trans (by simp)
  have pL := cell_keep hb0 hcL hbL
  have pR := cell_keep hb0 hcR hbR
  have zL := Nat.lt_of_lt_of_le hbL hb0.size
  have zR := Nat.lt_of_lt_of_le hbR hb0.size
  refine chn_is (stp_pure (by rfl) ?yan0) ?ran0
  case yan0 =>
    intro w
    go_simp
    first | done | with_reducible rfl
  (try simp only [Act.put, List.setIfInBounds_toArray, List.set_cons_zero, List.set_cons_succ, List.nil_append, List.cons_append, Nat.reduceAdd])
  refine chn_is (stp_pure (by rfl) ?yan1) ?ran1
  case yan1 =>
    intro w
    go_simp
    first | done | with_reducible rfl
  (try simp only [Act.put, List.setIfInBounds_toArray, List.set_cons_zero, List.set_cons_succ, List.nil_append, List.cons_append, Nat.reduceAdd])
  refine chn_is (stp_pure (by rfl) ?yan2) ?ran2
  case yan2 =>
    intro w
    go_simp
    first | done | with_reducible rfl
  (try simp only [Act.put, List.setIfInBounds_toArray, List.set_cons_zero, List.set_cons_succ, List.nil_append, List.cons_append, Nat.reduceAdd])
  refine chn_is (stp_pure (by rfl) ?yan3) ?ran3
  case yan3 =>
    intro w
    go_simp
    first | done | with_reducible rfl
  (try simp only [Act.put, List.setIfInBounds_toArray, List.set_cons_zero, List.set_cons_succ, List.nil_append, List.cons_append, Nat.reduceAdd])
  refine chn_is (stp_pure (by rfl) ?yan4) ?ran4
  case yan4 =>
    intro w
    go_simp
    first | done | with_reducible rfl
  (try simp only [Act.put, List.setIfInBounds_toArray, List.set_cons_zero, List.set_cons_succ, List.nil_append, List.cons_append, Nat.reduceAdd])
  refine chn_is (stp_pure (by rfl) ?yan5) ?ran5
  case yan5 =>
    intro w
    go_simp
    first | done | with_reducible rfl
  (try simp only [Act.put, List.setIfInBounds_toArray, List.set_cons_zero, List.set_cons_succ, List.nil_append, List.cons_append, Nat.reduceAdd])
  refine chn_is (stp_pure (by rfl) ?yan6) ?ran6
  case yan6 =>
    intro w
    go_simp
    first | done | with_reducible rfl
  (try simp only [Act.put, List.setIfInBounds_toArray, List.set_cons_zero, List.set_cons_succ, List.nil_append, List.cons_append, Nat.reduceAdd])
  refine chn_kn (stp_take (by rfl) ?yan7) ?ran7
  case yan7 =>
    intro w hbw hd
    have r2 := cell_keep hbw p2 zW
    clear hd
    go_simp
    first | done | with_reducible rfl
  (try simp only [Act.put, List.setIfInBounds_toArray, List.set_cons_zero, List.set_cons_succ, List.nil_append, List.cons_append, Nat.reduceAdd])
  refine chn_is (stp_pure (by rfl) ?yan8) ?ran8
  case yan8 =>
    intro w
    go_simp
    first | done | with_reducible rfl
  (try simp only [Act.put, List.setIfInBounds_toArray, List.set_cons_zero, List.set_cons_succ, List.nil_append, List.cons_append, Nat.reduceAdd])
  refine chn_is (stp_pure (by rfl) ?yan9) ?ran9
  case yan9 =>
    intro w
    go_simp
    first | done | with_reducible rfl
  (try simp only [Act.put, List.setIfInBounds_toArray, List.set_cons_zero, List.set_cons_succ, List.nil_append, List.cons_append, Nat.reduceAdd])
  refine chn_is (stp_pure (by rfl) ?yan10) ?ran10
  case yan10 =>
    intro w
    go_simp
    first | done | with_reducible rfl
  (try simp only [Act.put, List.setIfInBounds_toArray, List.set_cons_zero, List.set_cons_succ, List.nil_append, List.cons_append, Nat.reduceAdd])
  refine chn_is (stp_pure (by rfl) ?yan11) ?ran11
  case yan11 =>
    intro w
    go_simp
    first | done | with_reducible rfl
  (try simp only [Act.put, List.setIfInBounds_toArray, List.set_cons_zero, List.set_cons_succ, List.nil_append, List.cons_append, Nat.reduceAdd])
  refine chn_kn (stp_take (by rfl) ?yan12) ?ran12
  case yan12 =>
    intro w hbw hd
    have r1 := cell_keep hbw p1 zW
    clear hd
    go_simp
    first | done | with_reducible rfl
  (try simp only [Act.put, List.setIfInBounds_toArray, List.set_cons_zero, List.set_cons_succ, List.nil_append, List.cons_append, Nat.reduceAdd])
  refine chn_is (stp_pure (by rfl) ?yan13) ?ran13
  case yan13 =>
    intro w
    go_simp
    first | done | with_reducible rfl
  (try simp only [Act.put, List.setIfInBounds_toArray, List.set_cons_zero, List.set_cons_succ, List.nil_append, List.cons_append, Nat.reduceAdd])
  refine chn_is (stp_pure (by rfl) ?yan14) ?ran14
  case yan14 =>
    intro w
    go_simp
    first | done | with_reducible rfl
  (try simp only [Act.put, List.setIfInBounds_toArray, List.set_cons_zero, List.set_cons_succ, List.nil_append, List.cons_append, Nat.reduceAdd])
  refine chn_is (stp_pure (by rfl) ?yan15) ?ran15
  case yan15 =>
    intro w
    go_simp
    first | done | with_reducible rfl
  (try simp only [Act.put, List.setIfInBounds_toArray, List.set_cons_zero, List.set_cons_succ, List.nil_append, List.cons_append, Nat.reduceAdd])
  refine chn_kn (stp_take (by rfl) ?yan16) ?ran16
  case yan16 =>
    intro w hbw hd
    have r9 := cell_keep hbw pL zL
    clear hd
    go_simp
    first | done | with_reducible rfl
  (try simp only [Act.put, List.setIfInBounds_toArray, List.set_cons_zero, List.set_cons_succ, List.nil_append, List.cons_append, Nat.reduceAdd])
  refine chn_is (stp_pure (by rfl) ?yan17) ?ran17
  case yan17 =>
    intro w
    go_simp
    first | done | with_reducible rfl
  (try simp only [Act.put, List.setIfInBounds_toArray, List.set_cons_zero, List.set_cons_succ, List.nil_append, List.cons_append, Nat.reduceAdd])
  refine chn_kn (stp_take (by rfl) ?yan18) ?ran18
  case yan18 =>
    intro w hbw hd
    have r9 := cell_keep hbw pR zR
    clear hd
    go_simp
    first | done | with_reducible rfl
  (try simp only [Act.put, List.setIfInBounds_toArray, List.set_cons_zero, List.set_cons_succ, List.nil_append, List.cons_append, Nat.reduceAdd])
  refine chn_is (stp_pure (by rfl) ?yan19) ?ran19
  case yan19 =>
    intro w
    go_simp
    first | done | with_reducible rfl
  (try simp only [Act.put, List.setIfInBounds_toArray, List.set_cons_zero, List.set_cons_succ, List.nil_append, List.cons_append, Nat.reduceAdd])
  refine chn_is (stp_pure (by rfl) ?yan20) ?ran20
  case yan20 =>
    intro w
    go_simp
    first | done | with_reducible rfl
  (try simp only [Act.put, List.setIfInBounds_toArray, List.set_cons_zero, List.set_cons_succ, List.nil_append, List.cons_append, Nat.reduceAdd])
  refine chn_end (fun wz lo hi hbz hd hR => ?_)
  have hbb := hb0.trans (hbz.mono hb0.size)
  clear hd hR hb0 hbz hz0 zW kW
  refine late_none ?_
  obtain ⟨x4, rfl⟩ : ∃ x4 : World, x4 = wz := ⟨_, rfl⟩
  clear p1 p2 pL pR zL zR
  go_wp2_with fail
  go_ret
  exact ⟨rfl, hbb⟩

set_option maxRecDepth 100000 in
set_option maxHeartbeats 4000000 in
theorem promote_yes (b : Nat) (A1 A2 A3 : Option Addr) (c1 c2 c3 : Nat) (xs ys : List Int) (rs : List Bool) (T F : Int) (mv : List Int) (w : World) (h : WK w b A1 A2 A3 c1 c2 c3 xs ys rs T F mv) (hc : lruChk xs ys rs = 0) (h0 : 0 < ys.length) (hb : lastB ys rs = true) :
    Calls Try.prog 67 #[.pointer (some ⟨b, 0, none⟩)] w (MvPost b (pX xs ys) (pY xs ys) (rs.set (lastF ys).toNat false) T (lastF ys) mv w) := by
  have hlt := h.blk.lt
  have hv := valid_of_chk hc
  have HD : Hid (proS xs ys rs = ⟨pX xs ys, pY xs ys, rs.set (lastF ys).toNat false, 0⟩ ∧ proF xs ys rs = lastF ys) := by
    refine ⟨?_, ?_⟩
    · unfold proS; rw [if_neg (by simpa using hc), if_neg (by omega)]
    · unfold proF; rw [if_neg (by simpa using hc), if_neg (by omega)]
  have hll : ys.length ≤ 256 := by have := hv.len; have := hv.hi; omega
  have i0 : ((ys.length : Int) == 0) = false := by rw [beq_eq_false_iff_ne]; omega
  have q1 : w.cell? ⟨b, 1, none⟩ = some (.slice A2 ys.length c2) := (h.blk.cell_ 1).trans (by simp)
  have K := Lib.hid h
  obtain ⟨f, hf⟩ : ∃ f, lastF ys = f := ⟨_, rfl⟩
  have hin := hv.range (lastF ys) (by simp [lastF_mem h0])
  have hf2 := hv.hi
  rw [hf] at hin
  obtain ⟨bL, oL, rfl, hbL, hcL⟩ := last_at h.mem.i h0
  rw [hf] at hcL
  obtain ⟨bR, oR, rfl, hbR, hcR⟩ := bit_at h.mem.r hin.1 hin.2
  unfold lastB at hb
  rw [hf] at hb
  obtain ⟨G, rfl⟩ : ∃ G : Nat, f = G := ⟨f.toNat, by omega⟩
  rw [Int.toNat_natCast] at hcR hb
  have hG : (G : Int) < rs.length := hin.2
  have hG2 : rs.length ≤ 256 := hf2
  clear hf2
  rw [hb] at hcR
  rw [hf] at HD
  rw [hf]
  have hf3 : 0 ≤ (G : Int) ∧ (G : Int) < 256 := by omega
  clear h hc hb hv hin hf
  obtain ⟨us, hus⟩ : ∃ l, pX xs ys = l := ⟨_, rfl⟩
  obtain ⟨vs, hvs⟩ : ∃ l, pY xs ys = l := ⟨_, rfl⟩
  obtain ⟨ss, hss⟩ : ∃ l, rs.set (G : Int).toNat false = l := ⟨_, rfl⟩
  rw [hus, hvs, hss] at HD
  rw [hus, hvs, hss]
  clear hus hvs hss
  obtain ⟨n, hn⟩ : ∃ n : Nat, ys.length = n + 1 := ⟨ys.length - 1, by omega⟩
  rw [hn] at hcL hll q1 i0
  have HNN := Lib.hid hn
  have hwn : IntKind.i64.wrap (n : Int) = n := by rw [IntKind.wrap_i64]; omega
  have hwg : IntKind.i64.wrap (G : Int) = G := by rw [IntKind.wrap_i64]; omega
  have hnn : (n : Int) < n + 1 := by omega
  clear hn h0
  rw [show n + 1 - 1 = n by omega] at hcL
  go_enter Try.func67, Try.ntmps67
  go_wp2_with fail
  clear q1
  refine wp_region_chain2 [0, 0, 0, 0, 0, 0, 0, 1, 0, 0, 0, 0, 1, 0, 0, 0, 1, 0, 1, 0, 0] [[], [], [], [], [], [], [], [], [], [], [], [], [], [], [], [], [], [], [], [], []] [.is ?fan0, .is ?fan1, .is ?fan2, .is ?fan3, .is ?fan4, .is ?fan5, .is ?fan6, .kn ?fan7, .is ?fan8, .is ?fan9, .is ?fan10, .is ?fan11, .kn ?fan12, .is ?fan13, .is ?fan14, .is ?fan15, .kn ?fan16, .is ?fan17, .kn ?fan18, .is ?fan19, .is ?fan20] (by rfl) (by rfl) (by kernel_rfl) (by kernel_rfl) (by kernel_rfl) (by kernel_rfl) (by kernel_rfl) (by kernel_rfl) (lts_is (lts_is (lts_is (lts_is (lts_is (lts_is (lts_is (lts_kn (lts_is (lts_is (lts_is (lts_is (lts_kn (lts_is (lts_is (lts_is (lts_kn (lts_is (lts_kn (lts_is (lts_is lts_nil))))))))))))))))))))) (fun W0 hb0 hz0 => ?_)
  rotate_left 21
  rw [show lateIdx [0, 0, 0, 0, 0, 0, 0, 1, 0, 0, 0, 0, 1, 0, 0, 0, 1, 0, 1, 0, 0] = [] from by rfl]
  have kW := K.out.blk.below_ hb0 hlt
  have zW := kW.lt
  have p1 : W0.cell? ⟨b, 1, none⟩ = some (.slice (some ⟨bL, oL, none⟩) (n + 1) c2) := (kW.cell_ 1).trans (by simp [HNN.out])
  have p2 : W0.cell? ⟨b, 2, none⟩ = some (.slice (some ⟨bR, oR, none⟩) rs.length c3) := (kW.cell_ 2).trans (by simp)
  have pL := cell_keep hb0 hcL hbL
  have pR := cell_keep hb0 hcR hbR
  have zL := Nat.lt_of_lt_of_le hbL hb0.size
  have zR := Nat.lt_of_lt_of_le hbR hb0.size
  refine chn_is (stp_pure (by rfl) ?yan0) ?ran0
  case yan0 =>
    intro w
    go_simp
    first | done | with_reducible rfl
  (try simp only [Act.put, List.setIfInBounds_toArray, List.set_cons_zero, List.set_cons_succ, List.nil_append, List.cons_append, Nat.reduceAdd])
  refine chn_is (stp_pure (by rfl) ?yan1) ?ran1
  case yan1 =>
    intro w
    go_simp
    first | done | with_reducible rfl
  (try simp only [Act.put, List.setIfInBounds_toArray, List.set_cons_zero, List.set_cons_succ, List.nil_append, List.cons_append, Nat.reduceAdd])
  refine chn_is (stp_pure (by rfl) ?yan2) ?ran2
  case yan2 =>
    intro w
    go_simp
    first | done | with_reducible rfl
  (try simp only [Act.put, List.setIfInBounds_toArray, List.set_cons_zero, List.set_cons_succ, List.nil_append, List.cons_append, Nat.reduceAdd])
  refine chn_is (stp_pure (by rfl) ?yan3) ?ran3
  case yan3 =>
    intro w
    go_simp
    first | done | with_reducible rfl
  (try simp only [Act.put, List.setIfInBounds_toArray, List.set_cons_zero, List.set_cons_succ, List.nil_append, List.cons_append, Nat.reduceAdd])
  refine chn_is (stp_pure (by rfl) ?yan4) ?ran4
  case yan4 =>
    intro w
    go_simp
    first | done | with_reducible rfl
  (try simp only [Act.put, List.setIfInBounds_toArray, List.set_cons_zero, List.set_cons_succ, List.nil_append, List.cons_append, Nat.reduceAdd])
  refine chn_is (stp_pure (by rfl) ?yan5) ?ran5
  case yan5 =>
    intro w
    go_simp
    first | done | with_reducible rfl
  (try simp only [Act.put, List.setIfInBounds_toArray, List.set_cons_zero, List.set_cons_succ, List.nil_append, List.cons_append, Nat.reduceAdd])
  refine chn_is (stp_pure (by rfl) ?yan6) ?ran6
  case yan6 =>
    intro w
    go_simp
    first | done | with_reducible rfl
  (try simp only [Act.put, List.setIfInBounds_toArray, List.set_cons_zero, List.set_cons_succ, List.nil_append, List.cons_append, Nat.reduceAdd])
  refine chn_kn (stp_take (by rfl) ?yan7) ?ran7
  case yan7 =>
    intro w hbw hd
    have r2 := cell_keep hbw p2 zW
    clear hd
    go_simp
    first | done | with_reducible rfl
  (try simp only [Act.put, List.setIfInBounds_toArray, List.set_cons_zero, List.set_cons_succ, List.nil_append, List.cons_append, Nat.reduceAdd])
  refine chn_is (stp_pure (by rfl) ?yan8) ?ran8
  case yan8 =>
    intro w
    go_simp
    first | done | with_reducible rfl
  (try simp only [Act.put, List.setIfInBounds_toArray, List.set_cons_zero, List.set_cons_succ, List.nil_append, List.cons_append, Nat.reduceAdd])
  refine chn_is (stp_pure (by rfl) ?yan9) ?ran9
  case yan9 =>
    intro w
    go_simp
    first | done | with_reducible rfl
  (try simp only [Act.put, List.setIfInBounds_toArray, List.set_cons_zero, List.set_cons_succ, List.nil_append, List.cons_append, Nat.reduceAdd])
  refine chn_is (stp_pure (by rfl) ?yan10) ?ran10
  case yan10 =>
    intro w
    go_simp
    first | done | with_reducible rfl
  (try simp only [Act.put, List.setIfInBounds_toArray, List.set_cons_zero, List.set_cons_succ, List.nil_append, List.cons_append, Nat.reduceAdd])
  refine chn_is (stp_pure (by rfl) ?yan11) ?ran11
  case yan11 =>
    intro w
    go_simp
    first | done | with_reducible rfl
  (try simp only [Act.put, List.setIfInBounds_toArray, List.set_cons_zero, List.set_cons_succ, List.nil_append, List.cons_append, Nat.reduceAdd])
  refine chn_kn (stp_take (by rfl) ?yan12) ?ran12
  case yan12 =>
    intro w hbw hd
    have r1 := cell_keep hbw p1 zW
    clear hd
    go_simp
    first | done | with_reducible rfl
  (try simp only [Act.put, List.setIfInBounds_toArray, List.set_cons_zero, List.set_cons_succ, List.nil_append, List.cons_append, Nat.reduceAdd])
  refine chn_is (stp_pure (by rfl) ?yan13) ?ran13
  case yan13 =>
    intro w
    go_simp
    first | done | with_reducible rfl
  (try simp only [Act.put, List.setIfInBounds_toArray, List.set_cons_zero, List.set_cons_succ, List.nil_append, List.cons_append, Nat.reduceAdd])
  refine chn_is (stp_pure (by rfl) ?yan14) ?ran14
  case yan14 =>
    intro w
    go_simp
    first | done | with_reducible rfl
  (try simp only [Act.put, List.setIfInBounds_toArray, List.set_cons_zero, List.set_cons_succ, List.nil_append, List.cons_append, Nat.reduceAdd])
  refine chn_is (stp_pure (by rfl) ?yan15) ?ran15
  case yan15 =>
    intro w
    go_simp
    first | done | with_reducible rfl
  (try simp only [Act.put, List.setIfInBounds_toArray, List.set_cons_zero, List.set_cons_succ, List.nil_append, List.cons_append, Nat.reduceAdd])
  refine chn_kn (stp_take (by rfl) ?yan16) ?ran16
  case yan16 =>
    intro w hbw hd
    have r9 := cell_keep hbw pL zL
    clear hd
    go_simp
    first | done | with_reducible rfl
  (try simp only [Act.put, List.setIfInBounds_toArray, List.set_cons_zero, List.set_cons_succ, List.nil_append, List.cons_append, Nat.reduceAdd])
  refine chn_is (stp_pure (by rfl) ?yan17) ?ran17
  case yan17 =>
    intro w
    go_simp
    first | done | with_reducible rfl
  (try simp only [Act.put, List.setIfInBounds_toArray, List.set_cons_zero, List.set_cons_succ, List.nil_append, List.cons_append, Nat.reduceAdd])
  refine chn_kn (stp_take (by rfl) ?yan18) ?ran18
  case yan18 =>
    intro w hbw hd
    have r9 := cell_keep hbw pR zR
    clear hd
    go_simp
    first | done | with_reducible rfl
  (try simp only [Act.put, List.setIfInBounds_toArray, List.set_cons_zero, List.set_cons_succ, List.nil_append, List.cons_append, Nat.reduceAdd])
  refine chn_is (stp_pure (by rfl) ?yan19) ?ran19
  case yan19 =>
    intro w
    go_simp
    first | done | with_reducible rfl
  (try simp only [Act.put, List.setIfInBounds_toArray, List.set_cons_zero, List.set_cons_succ, List.nil_append, List.cons_append, Nat.reduceAdd])
  refine chn_is (stp_pure (by rfl) ?yan20) ?ran20
  case yan20 =>
    intro w
    go_simp
    first | done | with_reducible rfl
  (try simp only [Act.put, List.setIfInBounds_toArray, List.set_cons_zero, List.set_cons_succ, List.nil_append, List.cons_append, Nat.reduceAdd])
  refine chn_end (fun wz lo hi hbz hd hR => ?_)
  have hbb := hb0.trans (hbz.mono hb0.size)
  clear hd hR hb0 hbz hz0 zW kW
  refine late_none ?_
  obtain ⟨x4, rfl⟩ : ∃ x4 : World, x4 = wz := ⟨_, rfl⟩
  clear p1 p2 pL pR zL zR
  have K4 := Lib.hid (K.out.below hbb)
  have k4 := K4.out.blk
  have q0 : x4.cell? ⟨b, 0, none⟩ = some (.slice A1 xs.length c1) := (k4.cell_ 0).trans (by simp)
  have q1 : x4.cell? ⟨b, 1, none⟩ = some (.slice (some ⟨bL, oL, none⟩) ys.length c2) := (k4.cell_ 1).trans (by simp)
  have q2 : x4.cell? ⟨b, 2, none⟩ = some (.slice (some ⟨bR, oR, none⟩) rs.length c3) := (k4.cell_ 2).trans (by simp)
  have kl := k4.lt
  have zz := hbb.size
  clear k4 K hcL hcR hbL hbR hwn hwg hnn
  go_wp2_with fail
  refine (Promote_S A1 (some ⟨bL, oL, none⟩) (some ⟨bR, oR, none⟩) c1 c2 c3 xs ys rs _ K4.out.mem).mono ?_
  rw [HD.out.1, HD.out.2]
  rintro e x5 ⟨B1, d1, B2, d2, B3, d3, rfl, hm5, hn5, hb5⟩
  dsimp only at hm5 hn5 ⊢
  have HM5 := Lib.hid hm5; have HN5 := Lib.hid hn5; have HB5 := Lib.hid hb5
  have K5 := Lib.hid (K4.out.below hb5)
  have hlt5 := K5.out.blk.lt
  clear hm5 hn5 hb5 q0 q1 q2 K4
  go_wp2_with fail
  obtain ⟨V, hV⟩ : ∃ V, x5.alloc (.cells #[.slice B1 us.length d1, .slice B2 vs.length d2, .slice B3 ss.length d3] 25) = V := ⟨_, rfl⟩
  have hbV : Below x5.heap.size x5 V := by rw [← hV]; exact (Below.refl _ _).alloc (Nat.le_refl _) _
  have KV := K5.out.below hbV
  refine (move_any b A1 (some ⟨bL, oL, none⟩) (some ⟨bR, oR, none⟩) B1 B2 B3 c1 c2 c3 d1 d2 d3 xs ys us vs rs ss T F G mv _ (by rw [hV]; exact KV) (by rw [hV]; exact HM5.out.ext hbV) (HN5.out.neB kl us vs ss) hf3.1 hf3.2).mono ?_
  rintro e x6 ⟨rfl, k6, a6⟩
  rw [hV] at a6
  go_wp2_with fail
  go_ret
  refine ⟨rfl, B1, B2, B3, d1, d2, d3, k6, ⟨fun g e => by have := HN5.out.a g e; omega, fun g e => by have := HN5.out.i g e; omega, fun g e => by have := HN5.out.r g e; omega⟩, ?_⟩
  exact (Aside.of_below (hbb.trans ((HB5.out.trans (hbV.mono HB5.out.size)).mono zz))).trans a6

set_option maxRecDepth 100000 in
set_option maxHeartbeats 4000000 in
theorem find_none (b : Nat) (A1 A2 A3 : Option Addr) (c1 c2 c3 : Nat) (xs ys : List Int) (rs : List Bool) (T F : Int) (mv : List Int) (w : World) (h : WK w b A1 A2 A3 c1 c2 c3 xs ys rs T F mv) (h0 : ys.length = 0) :
    Calls Try.prog 68 #[.pointer (some ⟨b, 0, none⟩)] w fun e w' => e = .returned (.bool false) ∧ Below w.heap.size w w' := by
  have hlt := h.blk.lt
  have i0 : ((ys.length : Int) == 0) = true := by simpa using h0
  have q1 : w.cell? ⟨b, 1, none⟩ = some (.slice A2 ys.length c2) := (h.blk.cell_ 1).trans (by simp)
  clear h h0
  go_enter Try.func68, Try.ntmps68
  go_wp2_with fail
  go_ret
  exact ⟨rfl, Below.refl _ _⟩

set_option maxRecDepth 100000 in
set_option maxHeartbeats 4000000 in
theorem find_yes (b : Nat) (A1 A2 A3 : Option Addr) (c1 c2 c3 : Nat) (xs ys : List Int) (rs : List Bool) (T F : Int) (mv : List Int) (w : World) (h : WK w b A1 A2 A3 c1 c2 c3 xs ys rs T F mv) (h0 : 0 < ys.length) :
    Calls Try.prog 68 #[.pointer (some ⟨b, 0, none⟩)] w fun e w' => e = .returned (.bool true) ∧ WK w' b A1 A2 A3 c1 c2 c3 xs ys rs T (lastF ys) mv ∧ Aside (fun k => k = b) w w' := by
  have hlt := h.blk.lt
  have hll := h.mem.li
  have i0 : ((ys.length : Int) == 0) = false := by rw [beq_eq_false_iff_ne]; omega
  have q1 : w.cell? ⟨b, 1, none⟩ = some (.slice A2 ys.length c2) := (h.blk.cell_ 1).trans (by simp)
  have q4 : w.cell? ⟨b, 4, none⟩ = some (.int .i64 F) := (h.blk.cell_ 4).trans (by simp)
  have g4 := h.blk.frozen_ 4
  obtain ⟨bL, oL, rfl, hbL, hcL⟩ := last_at h.mem.i h0
  obtain ⟨f, hf⟩ : ∃ f, lastF ys = f := ⟨_, rfl⟩
  rw [hf] at hcL
  rw [hf]
  obtain ⟨n, hn⟩ : ∃ n : Nat, ys.length = n + 1 := ⟨ys.length - 1, by omega⟩
  rw [hn] at hcL hll q1 i0
  have K := Lib.hid h
  clear hn h0 h hf
  rw [show n + 1 - 1 = n by omega] at hcL
  go_enter Try.func68, Try.ntmps68
  go_wp2_with fail
  go_ret
  refine ⟨rfl, ⟨?_, K.out.mem.set_ K.out.ne _ _, K.out.ne⟩, (Aside.refl (fun k => k = b) w).setCell (.inr rfl) _⟩
  simpa using K.out.blk.set_ 4 (.int .i64 f)
end Go.Proofs.Ytiobbdfkimpfbaa
