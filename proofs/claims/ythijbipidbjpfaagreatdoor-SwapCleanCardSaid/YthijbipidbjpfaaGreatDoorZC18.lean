import Derived.Test.YthijbipidbjpfaaGreatDoorZC03
import Derived.Test.YthijbipidbjpfaaGreatDoorZC00
import Derived.Test.YthijbipidbjpfaaGreatDoorZC02
import Derived.Test.YthijbipidbjpfaaGreatDoorZC17
import Derived.Test.YthijbipidbjpfaaGreatDoorZC04
set_option linter.unusedSimpArgs false
set_option linter.unusedVariables false
set_option maxRecDepth 100000
set_option maxHeartbeats 8000000
namespace Go.Proofs.YthijbipidbjpfaaGreatDoor
open Go.RowKit Go.Maps
def idxI : Option Nat → Int
 | none => -1
 | some i => i
theorem fx_hit {α : Type} {l : List α} {p : α → Bool} {k : Nat} {x : α} (h : ∀ y ∈ l.take k, p y = false) (hx : l[k]? = some x) (hp : p x = true) : l.findIdx? p = some k := by
 obtain ⟨hk, e⟩ := List.getElem?_eq_some_iff.1 hx
 rw [List.findIdx?_eq_some_iff_getElem]
 refine ⟨hk, by rw [e]; exact hp, fun j hj => ?_⟩
 have := h l[j] (List.mem_take_iff_getElem.2 ⟨j, by omega, rfl⟩)
 simpa using this
theorem fx_none {α : Type} {l : List α} {p : α → Bool} (h : ∀ y ∈ l, p y = false) : l.findIdx? p = none := by
 rw [List.findIdx?_eq_none_iff]
 exact h
theorem fx_step {α : Type} {l : List α} {p : α → Bool} {k : Nat} {x : α} (h : ∀ y ∈ l.take k, p y = false) (hx : l[k]? = some x) (hp : p x = false) : ∀ y ∈ l.take (k + 1), p y = false := by
 rw [List.take_add_one, hx]
 intro y hy
 rcases List.mem_append.1 hy with hy | hy
 ·exact h y hy
 ·simp at hy
  subst hy
  exact hp
theorem ixJ1_any (j : Jb) (B : Nat) (f : Int) (w : World) (hB : w.cell? ⟨B, 0, none⟩ = some (.int .i64 f)) (hl : B < w.heap.size) : Calls Tryz.prog 103 #[.agg (jbE.enc j).toArray, .pointer (some ⟨B, 0, none⟩)] w fun e w' => e = .returned (.bool (decide (j.frame = f))) ∧ Below w.heap.size w w' := by
 obtain ⟨jw, js_, jf, ⟨e0, e1, e2, e3, e4, e5, e6, e7⟩⟩ := j
 show Calls _ _ #[.agg (zkj jw js_ jf e0 e1 e2 e3 e4 e5 e6 e7).toArray, .pointer (some ⟨B, 0, none⟩)] _ _
 dsimp only
 by_cases h : jf = f
 ·subst h
  rw [show decide (jf = jf) = true by simp]
  go_enter Tryz.func103, Tryz.ntmps103
  go_wp2_with fail
  go_ret
  exact ⟨by simp, zbl⟩
 ·have hb : (jf == f) = false := by simpa using h
  rw [show decide (jf = f) = false by simpa using h]
  go_enter Tryz.func103, Tryz.ntmps103
  go_wp2_with fail
  go_ret
  exact ⟨by simp, zbl⟩
theorem ixJ_any (A : Option Addr) (c : Nat) (l : List Jb) (B : Nat) (f : Int) (w : World) (ha : SR jbE w A l) (la : l.length ≤ 1000) (hB : w.cell? ⟨B, 0, none⟩ = some (.int .i64 f)) (hl : B < w.heap.size) :
  Calls Tryz.prog 158 #[.slice A l.length c, .func (.func 103) #[] #[.pointer (some ⟨B, 0, none⟩)]] w fun e w' => e = .returned (.int .i64 (idxI (l.findIdx? fun j => decide (j.frame = f)))) ∧ Below w.heap.size w w' := by
 have HA := Lib.hid ha
 have HB := Lib.hid hB
 have HL := Lib.hid hl
 obtain ⟨m, hm⟩ : ∃ m, l.length = m := ⟨_, rfl⟩
 obtain ⟨R, hR⟩ : ∃ R, idxI (l.findIdx? fun j => decide (j.frame = f)) = R := ⟨_, rfl⟩
 rw [hm, hR]
 have HM := Lib.hid hm
 have HR := Lib.hid hR
 have la' : m ≤ 1000 := by omega
 clear ha hB hl hm hR la
 go_enter Tryz.func158, Tryz.ntmps158
 go_wp2_with fail
 go_loopw [8] (fun i wr => ∃ k : Nat, k ≤ m ∧ i = .int .i64 k ∧ Hid (∀ y ∈ l.take k, decide (y.frame = f) = false) ∧ Below w.heap.size w wr) (fun i _ => m - (intOf i).toNat)
 case atStart => exact ⟨0, by omega, rfl, (show ∀ y ∈ l.take 0, _ from fun y hy => (by simp at hy)), Below.refl _ _⟩
 case round =>
  obtain ⟨k, hk, rfl, HP, hb⟩ := hrel
  by_cases hlt : k < m
  ·have i1 : (k : Int) < m := by omega
   obtain ⟨b, off, y, rfl, hbl, hx, hc⟩ := (HA.out.ext hb).at_ (k := k) (by rw [HM.out]; exact hlt)
   have HX := Lib.hid hx
   have HC1 := Lib.hid (ixJ1_any y B f wr (cell_keep hb HB.out HL.out) (Nat.lt_of_lt_of_le HL.out hb.size))
   clear hx
   obtain ⟨vv, hvv⟩ : ∃ b, decide (y.frame = f) = b := ⟨_, rfl⟩
   rw [hvv] at HC1
   have HVV := Lib.hid hvv
   obtain ⟨jw, js_, jf, ⟨e0, e1, e2, e3, e4, e5, e6, e7⟩⟩ := y
   clear hvv
   have f0 : wr.cell? ⟨b, off + k * 11, none⟩ = some (.bool jw) := hc 0 _ rfl
   have f1 : wr.cell? ⟨b, off + k * 11 + 1, none⟩ = some (.int .i64 js_) := hc 1 _ rfl
   have f2 : wr.cell? ⟨b, off + k * 11 + 2, none⟩ = some (.int .i64 jf) := hc 2 _ rfl
   have f3 : wr.cell? ⟨b, off + k * 11 + 3, none⟩ = some (.int .u64 e0) := hc 3 _ rfl
   have f4 : wr.cell? ⟨b, off + k * 11 + 4, none⟩ = some (.int .u64 e1) := hc 4 _ rfl
   have f5 : wr.cell? ⟨b, off + k * 11 + 5, none⟩ = some (.int .u64 e2) := hc 5 _ rfl
   have f6 : wr.cell? ⟨b, off + k * 11 + 6, none⟩ = some (.int .u64 e3) := hc 6 _ rfl
   have f7 : wr.cell? ⟨b, off + k * 11 + 7, none⟩ = some (.int .u64 e4) := hc 7 _ rfl
   have f8 : wr.cell? ⟨b, off + k * 11 + 8, none⟩ = some (.int .u64 e5) := hc 8 _ rfl
   have f9 : wr.cell? ⟨b, off + k * 11 + 9, none⟩ = some (.int .u64 e6) := hc 9 _ rfl
   have f10 : wr.cell? ⟨b, off + k * 11 + 10, none⟩ = some (.int .u64 e7) := hc 10 _ rfl
   go_wp2_with fail
   refine HC1.out.mono ?_
   rintro e7 w7 ⟨rfl, hb7⟩
   cases vv with
   | true =>
    have HE : Hid (R = k) := by
     show _ = _
     rw [← HR.out, fx_hit HP.out HX.out HVV.out]
     rfl
    go_wp2_with fail
    go_ret
    exact ⟨by rw [HE.out]; rfl, hb.trans (hb7.mono hb.size)⟩
   | false =>
    have HN : Hid (∀ y ∈ l.take (k + 1), decide (y.frame = f) = false) := fx_step HP.out HX.out HVV.out
    go_wp2_with fail
    go_roundw
    case rel => exact ⟨k + 1, by omega, by go_num, HN, hb.trans (hb7.mono hb.size)⟩
    case measure => simp [intOf]; omega
  ·obtain rfl : k = m := by omega
   have HE : Hid (R = -1) := by
    show _ = _
    have h := HP.out
    rw [← HM.out, List.take_length] at h
    rw [← HR.out, fx_none h]
    rfl
   go_wp2_with fail
   go_ret
   exact ⟨by rw [HE.out]; rfl, hb⟩
theorem ixR1_any (j : Wr) (B : Nat) (f : Int) (w : World) (hB : w.cell? ⟨B, 1, none⟩ = some (.int .i64 f)) (hl : B < w.heap.size) : Calls Tryz.prog 180 #[.agg (rdE.enc j).toArray, .pointer (some ⟨B, 0, none⟩)] w fun e w' => e = .returned (.bool (decide (j.1 = f))) ∧ Below w.heap.size w w' := by
 obtain ⟨v0, v1, v2⟩ := j
 show Calls _ _ #[.agg #[.int .i64 v0, .int .i64 v1, .int .i64 v2], .pointer (some ⟨B, 0, none⟩)] _ _
 dsimp only
 by_cases h : v0 = f
 ·subst h
  rw [show decide (v0 = v0) = true by simp]
  go_enter Tryz.func180, Tryz.ntmps180
  go_wp2_with fail
  go_ret
  exact ⟨by simp, zbl⟩
 ·have hb : (v0 == f) = false := by simpa using h
  rw [show decide (v0 = f) = false by simpa using h]
  go_enter Tryz.func180, Tryz.ntmps180
  go_wp2_with fail
  go_ret
  exact ⟨by simp, zbl⟩
theorem ixR_any (A : Option Addr) (c : Nat) (l : List Wr) (B : Nat) (f : Int) (w : World) (ha : SR rdE w A l) (la : l.length ≤ 1000) (hB : w.cell? ⟨B, 1, none⟩ = some (.int .i64 f)) (hl : B < w.heap.size) :
  Calls Tryz.prog 179 #[.slice A l.length c, .func (.func 180) #[] #[.pointer (some ⟨B, 0, none⟩)]] w fun e w' => e = .returned (.int .i64 (idxI (l.findIdx? fun j => decide (j.1 = f)))) ∧ Below w.heap.size w w' := by
 have HA := Lib.hid ha
 have HB := Lib.hid hB
 have HL := Lib.hid hl
 obtain ⟨m, hm⟩ : ∃ m, l.length = m := ⟨_, rfl⟩
 obtain ⟨R, hR⟩ : ∃ R, idxI (l.findIdx? fun j => decide (j.1 = f)) = R := ⟨_, rfl⟩
 rw [hm, hR]
 have HM := Lib.hid hm
 have HR := Lib.hid hR
 have la' : m ≤ 1000 := by omega
 clear ha hB hl hm hR la
 go_enter Tryz.func179, Tryz.ntmps179
 go_wp2_with fail
 go_loopw [8] (fun i wr => ∃ k : Nat, k ≤ m ∧ i = .int .i64 k ∧ Hid (∀ y ∈ l.take k, decide (y.1 = f) = false) ∧ Below w.heap.size w wr) (fun i _ => m - (intOf i).toNat)
 case atStart => exact ⟨0, by omega, rfl, (show ∀ y ∈ l.take 0, _ from fun y hy => (by simp at hy)), Below.refl _ _⟩
 case round =>
  obtain ⟨k, hk, rfl, HP, hb⟩ := hrel
  by_cases hlt : k < m
  ·have i1 : (k : Int) < m := by omega
   obtain ⟨b, off, y, rfl, hbl, hx, hc⟩ := (HA.out.ext hb).at_ (k := k) (by rw [HM.out]; exact hlt)
   have HX := Lib.hid hx
   have HC1 := Lib.hid (ixR1_any y B f wr (cell_keep hb HB.out HL.out) (Nat.lt_of_lt_of_le HL.out hb.size))
   clear hx
   obtain ⟨vv, hvv⟩ : ∃ b, decide (y.1 = f) = b := ⟨_, rfl⟩
   rw [hvv] at HC1
   have HVV := Lib.hid hvv
   obtain ⟨v0, v1, v2⟩ := y
   clear hvv
   have f0 : wr.cell? ⟨b, off + k * 3, none⟩ = some (.int .i64 v0) := hc 0 _ rfl
   have f1 : wr.cell? ⟨b, off + k * 3 + 1, none⟩ = some (.int .i64 v1) := hc 1 _ rfl
   have f2 : wr.cell? ⟨b, off + k * 3 + 2, none⟩ = some (.int .i64 v2) := hc 2 _ rfl
   go_wp2_with fail
   refine HC1.out.mono ?_
   rintro e7 w7 ⟨rfl, hb7⟩
   cases vv with
   | true =>
    have HE : Hid (R = k) := by
     show _ = _
     rw [← HR.out, fx_hit HP.out HX.out HVV.out]
     rfl
    go_wp2_with fail
    go_ret
    exact ⟨by rw [HE.out]; rfl, hb.trans (hb7.mono hb.size)⟩
   | false =>
    have HN : Hid (∀ y ∈ l.take (k + 1), decide (y.1 = f) = false) := fx_step HP.out HX.out HVV.out
    go_wp2_with fail
    go_roundw
    case rel => exact ⟨k + 1, by omega, by go_num, HN, hb.trans (hb7.mono hb.size)⟩
    case measure => simp [intOf]; omega
  ·obtain rfl : k = m := by omega
   have HE : Hid (R = -1) := by
    show _ = _
    have h := HP.out
    rw [← HM.out, List.take_length] at h
    rw [← HR.out, fx_none h]
    rfl
   go_wp2_with fail
   go_ret
   exact ⟨by rw [HE.out]; rfl, hb⟩
theorem Check_any (A : Option Addr) (c : Nat) (l : List Wr) (w : World) (ha : SW w A l) (la : l.length ≤ 1000) {z : Int} {n : Nat} (h : chkS l = (z, n)) :
  Calls Tryz.prog 60 #[.slice A l.length c] w fun e w' => e = .returned (.tuple #[.int .i64 z, .int .i64 n]) ∧ Below w.heap.size w w' := by
 have HS := Lib.hid ha
 clear ha
 by_cases hz : z = 0
 ·subst hz
  have HZ : Hid ((chkS l).1 = 0) := by show _ = _; rw [h]
  have HN : Hid ((chkS l).2 = n) := by show _ = _; rw [h]
  clear h
  go_enter Tryz.func60, Tryz.ntmps60
  go_wp2_with (first | (go_at_call 120; with_reducible refine (read_good _ _ _ _ HS.out la HZ.out).mono ?_; rw [HN.out]; rintro e w1 ⟨B, rfl, hB, hm, hb1⟩))
  refine bodyPost_ret (by simp [results, Tryz.results60, go_sem] <;> rfl) rfl ?_
  exact ⟨rfl, hb1⟩
 ·have H := Lib.hid h
  clear h
  go_enter Tryz.func60, Tryz.ntmps60
  go_wp2_with (first | (go_at_call 120; with_reducible refine (read_bad _ _ _ _ HS.out la H.out hz).mono ?_; rintro e w1 ⟨rfl, hb1⟩))
  refine bodyPost_ret (by simp [results, Tryz.results60, go_sem] <;> rfl) rfl ?_
  exact ⟨rfl, hb1⟩
theorem findS_zero {l : List Wr} {s z : Int} {n : Nat} (h : findS l s = (n, z)) (hz : z ≠ 0) : n = 0 := by
 unfold findS at h
 by_cases h0 : (chkS l).1 ≠ 0
 ·rw [if_pos h0] at h
  exact (Prod.mk.inj h).1.symm
 ·rw [if_neg h0] at h
  by_cases hs : 0 ≤ s ∧ s < 256
  ·rw [if_pos hs] at h
   cases hf : l.findIdx? (fun x => decide (x.1 = s)) with
   | none => rw [hf] at h; exact (Prod.mk.inj h).1.symm
   | some k =>
    rw [hf] at h
    exact absurd (Prod.mk.inj h).2.symm hz
  ·rw [if_neg hs] at h
   exact (Prod.mk.inj h).1.symm
theorem Find_any (A : Option Addr) (c : Nat) (l : List Wr) (s : Int) (w : World) (ha : SW w A l) (la : l.length ≤ 1000) {n : Nat} {z : Int} (h : findS l s = (n, z)) :
  Calls Tryz.prog 94 #[.slice A l.length c, .int .i64 s] w fun e w' => e = .returned (.tuple #[.int .i64 n, .int .i64 z]) ∧ Below w.heap.size w w' := by
 have HS := Lib.hid ha
 clear ha
 by_cases hz : z = 0
 ·subst hz
  have H := Lib.hid h
  clear h
  go_enter Tryz.func94, Tryz.ntmps94
  go_wp2_with (first | (go_at_call 152; with_reducible refine (find_good _ _ _ _ _ HS.out la H.out).mono ?_; rintro e w1 ⟨B, rfl, hB, hm, hb1⟩))
  refine bodyPost_ret (by simp [results, Tryz.results94, go_sem] <;> rfl) rfl ?_
  exact ⟨rfl, hb1⟩
 ·obtain rfl := findS_zero h hz
  have HK : Hid ((findS l s).2 = z) := by show _ = _; rw [h]
  clear h
  go_enter Tryz.func94, Tryz.ntmps94
  go_wp2_with (first | (go_at_call 152; with_reducible refine (find_bad _ _ _ _ _ HS.out la HK.out hz).mono ?_; rintro e w1 ⟨rfl, hb1⟩))
  refine bodyPost_ret (by simp [results, Tryz.results94, go_sem] <;> rfl) rfl ?_
  exact ⟨rfl, hb1⟩
structure SwA (w : World) (L : Lay) (s : Swp) : Prop where
 sw : SwR w L s
 few : Few s
 wf : ∀ v ∈ s.rd, (Lit.int .i64 v.2.2).wf = true
theorem SwA.ext {w w' : World} {L : Lay} {s : Swp} (h : SwA w L s) (hb : Below w.heap.size w w') : SwA w' L s := ⟨h.sw.ext hb, h.few, h.wf⟩
theorem chkW_parts {s : Swp} (h0 : ¬ (s.cap < 1 ∨ 16 < s.cap)) (h1 : (chkT s.sl).1 = 0) (h2 : (chkS s.wr).1 = 0) (h3 : (chkD s.dk).1 = 0) (h4 : (chkP s.po).1 = 0) : chkW s = if agW s then 0 else 3 := by
 unfold chkW
 rw [if_neg h0, if_neg (by simpa using h1), if_neg (by simpa using h2), if_neg (by simpa using h3), if_neg (by simpa using h4)]
theorem wCheck_any (L : Lay) (s : Swp) (w : World) (h : SwA w L s) (hz : TZ w) : Calls Tryz.prog 18 #[swV L s] w fun e w' => e = .returned (.int .i64 (chkW s)) ∧ Below w.heap.size w w' := by
 obtain ⟨a0, c0, a1, c1, a2, c2, a3, c3, a4, c4, a5, c5, a6, c6, a7, c7⟩ := L
 have HS := Lib.hid h.sw
 have HF := Lib.hid h.few
 have HWF := Lib.hid h.wf
 have HZ := Lib.hid hz
 have HW0 : 0 < w.heap.size := hz.pos
 obtain ⟨f0, f1, f2, f3, f4, f5, f6, f7⟩ := h.few
 obtain ⟨R, hR⟩ : ∃ R, chkW s = R := ⟨_, rfl⟩
 rw [hR]
 have HR := Lib.hid hR
 clear h hz hR
 unfold swV swC
 obtain ⟨X, hX⟩ : ∃ X, w.alloc (.cells (zkx s a0 c0 a1 c1 a2 c2 a3 c3 a4 c4 a5 c5 a6 c6 a7 c7).toArray 35) = X := ⟨_, rfl⟩
 have kX : Blk X w.heap.size 35 (zkx s a0 c0 a1 c1 a2 c2 a3 c3 a4 c4 a5 c5 a6 c6 a7 c7).toArray := by rw [← hX]; exact zbk
 have BX : Below w.heap.size w X := by rw [← hX]; exact zbl
 have zkX := kX.lt
 obtain ⟨q0, q1, q2, -⟩ := zc11 kX
 by_cases p0 : s.cap < 1
 ·have HE : Hid (R = 2) := by show _ = _; rw [← HR.out]; unfold chkW; rw [if_pos (.inl p0)]
  have b0 : decide (s.cap < 1) = true := by simpa using p0
  clear p0
  go_enter Tryz.func18, Tryz.ntmps18
  go_wp2_with fail
  go_ret
  exact ⟨by rw [HE.out]; rfl, BX⟩
 ·have b0 : decide (s.cap < 1) = false := by simpa using p0
  by_cases p1 : 16 < s.cap
  ·have HE : Hid (R = 2) := by show _ = _; rw [← HR.out]; unfold chkW; rw [if_pos (.inr p1)]
   have b1 : decide (s.cap > 16) = true := by simpa using p1
   clear p0 p1
   go_enter Tryz.func18, Tryz.ntmps18
   go_wp2_with fail
   go_ret
   exact ⟨by rw [HE.out]; rfl, BX⟩
  ·have b1 : decide (s.cap > 16) = false := by simpa using p1
   have HC : Hid (¬ (s.cap < 1 ∨ 16 < s.cap)) := fun h => h.elim p0 p1
   obtain ⟨⟨z1, n1⟩, hz1⟩ : ∃ r, chkT s.sl = r := ⟨_, rfl⟩
   have HZ1 := Lib.hid hz1
   clear p0 p1 hz1
   go_enter Tryz.func18, Tryz.ntmps18
   go_wp2_with fail
   (try rw [hX])
   clear hX
   refine (sCheck_any a0 a1 c0 c1 s.sl X (HS.out.r0.ext BX) (by omega) (by omega) HZ1.out).mono ?_
   rintro e1 w1 ⟨rfl, hb1⟩
   have B1 := zbt BX hb1
   replace kX := kX.below_ hb1 kX.lt
   clear hb1
   clear zkX q0 q1 q2
   by_cases y1 : z1 = 0
   ·subst y1
    have zkX := kX.lt
    obtain ⟨-, -, -, q3, -⟩ := zc11 kX
    obtain ⟨⟨z2, n2⟩, hz2⟩ : ∃ r, chkS s.wr = r := ⟨_, rfl⟩
    have HZ2 := Lib.hid hz2
    clear hz2
    go_wp2_with fail
    refine (Check_any a2 c2 s.wr w1 (HS.out.r2.ext B1).sw (by omega) HZ2.out).mono ?_
    rintro e2 w2 ⟨rfl, hb2⟩
    have B2 := zbt B1 hb2
    replace kX := kX.below_ hb2 kX.lt
    clear hb2
    clear zkX q3
    by_cases y2 : z2 = 0
    ·subst y2
     have zkX := kX.lt
     obtain ⟨-, -, -, -, -, -, q6, q7, q8, -⟩ := zc11 kX
     obtain ⟨⟨z3, n3⟩, hz3⟩ : ∃ r, chkD s.dk = r := ⟨_, rfl⟩
     have HZ3 := Lib.hid hz3
     clear hz3
     go_wp2_with fail
     refine (dCheck_any a5 a6 c5 c6 s.dk w2 (HS.out.r6.ext B2) (by omega) (by omega) HZ3.out).mono ?_
     rintro e3 w3 ⟨rfl, hb3⟩
     have B3 := zbt B2 hb3
     replace kX := kX.below_ hb3 kX.lt
     clear hb3
     clear zkX q6 q7 q8
     by_cases y3 : z3 = 0
     ·subst y3
      have zkX := kX.lt
      obtain ⟨-, -, -, -, -, -, -, -, -, q9, q10⟩ := zc11 kX
      obtain ⟨⟨z4, n4⟩, hz4⟩ : ∃ r, chkP s.po = r := ⟨_, rfl⟩
      have HZ4 := Lib.hid hz4
      clear hz4
      go_wp2_with fail
      refine (pCheck_any a7 c7 s.po w3 (HS.out.r7.ext B3) (by omega) HZ4.out).mono ?_
      rintro e4 w4 ⟨rfl, hb4⟩
      have B4 := zbt B3 hb4
      replace kX := kX.below_ hb4 kX.lt
      clear hb4
      clear zkX q9 q10
      by_cases y4 : z4 = 0
      ·subst y4
       have zkX := kX.lt
       obtain ⟨q0, q1, q2, q3, q4, q5, q6, q7, q8, q9, q10⟩ := zc11 kX
       have HA := Lib.hid (agrees_any ⟨a0, c0, a1, c1, a2, c2, a3, c3, a4, c4, a5, c5, a6, c6, a7, c7⟩ s w4 (HS.out.ext B4) HF.out HWF.out (chkT_ok.1 (by rw [HZ1.out])) (chkS_ok.1 (by rw [HZ2.out])) (chkD_ok.1 (by rw [HZ3.out])) (chkP_ok (by rw [HZ4.out])) (HZ.out.ext HW0 B4))
       have HP := Lib.hid (chkW_parts HC.out (by rw [HZ1.out]) (by rw [HZ2.out]) (by rw [HZ3.out]) (by rw [HZ4.out]))
       obtain ⟨ag, hag⟩ : ∃ b, agW s = b := ⟨_, rfl⟩
       rw [hag] at HA HP
       clear hag
       go_wp2_with fail
       refine HA.out.mono ?_
       rintro e5 w5 ⟨rfl, hb5⟩
       have B5 := zbt B4 hb5
       replace kX := kX.below_ hb5 kX.lt
       clear hb5
       clear zkX q0 q1 q2 q3 q4 q5 q6 q7 q8 q9 q10
       cases ag with
       | true =>
        have HE : Hid (R = 0) := by show _ = _; rw [← HR.out, HP.out]; rfl
        go_wp2_with fail
        go_ret
        exact ⟨by rw [HE.out]; rfl, B5⟩
       | false =>
        have HE : Hid (R = 3) := by show _ = _; rw [← HR.out, HP.out]; rfl
        go_wp2_with fail
        go_ret
        exact ⟨by rw [HE.out]; rfl, B5⟩
      ·have HE : Hid (R = z4) := by show _ = _; rw [← HR.out]; unfold chkW; rw [if_neg HC.out, HZ1.out, if_neg (by simp), HZ2.out, if_neg (by simp), HZ3.out, if_neg (by simp), HZ4.out, if_pos (by simpa using y4)]
       have yb : (z4 != 0) = true := by simpa using y4
       clear y4
       go_wp2_with fail
       go_ret
       exact ⟨by rw [HE.out]; rfl, B4⟩
     ·have HE : Hid (R = z3) := by show _ = _; rw [← HR.out]; unfold chkW; rw [if_neg HC.out, HZ1.out, if_neg (by simp), HZ2.out, if_neg (by simp), HZ3.out, if_pos (by simpa using y3)]
      have yb : (z3 != 0) = true := by simpa using y3
      clear y3
      go_wp2_with fail
      go_ret
      exact ⟨by rw [HE.out]; rfl, B3⟩
    ·have HE : Hid (R = z2) := by show _ = _; rw [← HR.out]; unfold chkW; rw [if_neg HC.out, HZ1.out, if_neg (by simp), HZ2.out, if_pos (by simpa using y2)]
     have yb : (z2 != 0) = true := by simpa using y2
     clear y2
     go_wp2_with fail
     go_ret
     exact ⟨by rw [HE.out]; rfl, B2⟩
   ·have HE : Hid (R = z1) := by show _ = _; rw [← HR.out]; unfold chkW; rw [if_neg HC.out, HZ1.out, if_pos (by simpa using y1)]
    have yb : (z1 != 0) = true := by simpa using y1
    clear y1
    go_wp2_with fail
    go_ret
    exact ⟨by rw [HE.out]; rfl, B1⟩
theorem any_idx {l : List Jb} {f : Int} : decide (idxI (l.findIdx? fun j => decide (j.frame = f)) ≥ 0) = l.any fun j => decide (j.frame = f) := by
 cases h : l.findIdx? fun j => decide (j.frame = f) with
 | none =>
  rw [List.findIdx?_eq_none_iff] at h
  have : (l.any fun j => decide (j.frame = f)) = false := List.any_eq_false.2 fun x hx => by simpa using h x hx
  rw [this]
  rfl
 | some i =>
  rw [List.findIdx?_eq_some_iff_getElem] at h
  obtain ⟨hi, h1, _⟩ := h
  have : (l.any fun j => decide (j.frame = f)) = true := List.any_eq_true.2 ⟨l[i], List.getElem_mem _, h1⟩
  rw [this]
  exact decide_eq_true (by show (i : Int) ≥ 0; omega)
theorem cfJ_any (A : Option Addr) (c : Nat) (l : List Jb) (B : Nat) (f : Int) (w : World) (ha : SR jbE w A l) (la : l.length ≤ 1000) (hB : w.cell? ⟨B, 0, none⟩ = some (.int .i64 f)) (hl : B < w.heap.size) :
  Calls Tryz.prog 102 #[.slice A l.length c, .func (.func 103) #[] #[.pointer (some ⟨B, 0, none⟩)]] w fun e w' => e = .returned (.bool (l.any fun j => decide (j.frame = f))) ∧ Below w.heap.size w w' := by
 have H := Lib.hid (ixJ_any A c l B f w ha la hB hl)
 obtain ⟨i, hi⟩ : ∃ i, idxI (l.findIdx? fun j => decide (j.frame = f)) = i := ⟨_, rfl⟩
 have HE := Lib.hid (any_idx (l := l) (f := f))
 rw [hi] at H HE
 obtain ⟨b, hb⟩ : ∃ b, decide (i ≥ 0) = b := ⟨_, rfl⟩
 rw [hb] at HE
 rw [← HE.out]
 clear ha la hB hl hi HE
 go_enter Tryz.func102, Tryz.ntmps102
 go_wp2_with fail
 refine H.out.mono ?_
 rintro e1 w1 ⟨rfl, hb1⟩
 go_wp2_with fail
 go_ret
 exact ⟨rfl, hb1⟩
theorem hasFrame_any (L : Lay) (s : Swp) (f : Int) (w : World) (h : SR jbE w L.a6 s.dk.jobs) (hf : s.dk.jobs.length ≤ 1000) : Calls Tryz.prog 49 #[swV L s, .int .i64 f] w fun e w' => e = .returned (.bool (usW s f)) ∧ Below w.heap.size w w' := by
 obtain ⟨a0, c0, a1, c1, a2, c2, a3, c3, a4, c4, a5, c5, a6, c6, a7, c7⟩ := L
 have HS := Lib.hid h
 clear h
 unfold swV swC
 obtain ⟨X, hX⟩ : ∃ X, (w.alloc (.cells (zkx s a0 c0 a1 c1 a2 c2 a3 c3 a4 c4 a5 c5 a6 c6 a7 c7).toArray 35)).alloc (.cells #[.int .i64 f] 3) = X := ⟨_, rfl⟩
 have kX := za1 hX
 have kF := za2 hX
 have BX : Below w.heap.size w X := by rw [← hX]; exact zbl
 have zkX := kX.lt
 obtain ⟨-, -, -, -, -, -, -, q7, -⟩ := zc11 kX
 have y0 := zc kF 0
 have zF := kF.lt
 have HC := Lib.hid (cfJ_any a6 c6 s.dk.jobs (w.heap.size + 1) f X (HS.out.ext BX) hf y0 zF)
 go_enter Tryz.func49, Tryz.ntmps49
 go_wp2_with fail
 (try rw [hX])
 clear hX
 refine HC.out.mono ?_
 rintro e1 w1 ⟨rfl, hb1⟩
 go_wp2_with fail
 go_ret
 exact ⟨rfl, BX.trans (hb1.mono BX.size)⟩
def RiPost (l : List Int) (w : World) (e : Ending) (w' : World) : Prop := ∃ A c, e = .returned (.slice A l.length c) ∧ SR intE w' A l ∧ Below w.heap.size w w'
theorem hinders_any (L : Lay) (s : Swp) (w : World) (h : SwA w L s) (hok : OkS s) : Calls Tryz.prog 46 #[swV L s] w (RiPost (hinW s) w) := by
 obtain ⟨a0, c0, a1, c1, a2, c2, a3, c3, a4, c4, a5, c5, a6, c6, a7, c7⟩ := L
 have HS := Lib.hid h
 obtain ⟨f0, f1, f2, f3, f4, f5, f6, f7⟩ := h.few
 obtain ⟨g1, hg1⟩ : ∃ b, decide ((s.wr.length : Int) ≥ s.cap) = b := ⟨_, rfl⟩
 obtain ⟨g2, hg2⟩ : ∃ b, decide (s.dk.room ≤ (s.dk.jobs.length : Int)) = b := ⟨_, rfl⟩
 obtain ⟨g3, hg3⟩ : ∃ b, (fstT s.sl).isNone = b := ⟨_, rfl⟩
 have HIN : Hid (hinW s = (if g1 = true then [(2 : Int)] else []) ++ (if g2 = true then [(3 : Int)] else []) ++ (if g3 = true then [(4 : Int)] else [])) := by
  show _ = _
  unfold hinW
  rw [← hg1, ← hg2, ← hg3]
  simp
 have hck := chkD_zero hok.dk
 have HL2 : Hid ((chkD s.dk).1 = 0) := by show _ = _; rw [hck]
 obtain ⟨lft, hlft⟩ : ∃ n, (if (chkD s.dk).1 ≠ 0 then 0 else s.dk.room - s.dk.jobs.length) = n := ⟨_, rfl⟩
 have HL1 := Lib.hid hlft
 have g2b : (lft == 0) = g2 := by
  rw [← hg2, ← hlft, if_neg (by rw [hck]; simp)]
  have := hok.dk.few
  by_cases e : s.dk.room ≤ (s.dk.jobs.length : Int)
  ·rw [decide_eq_true e]; simp; omega
  ·rw [decide_eq_false e]; simp; omega
 obtain ⟨fe, hfe⟩ : ∃ n, (firT s.sl).2 = n := ⟨_, rfl⟩
 have HF2 := Lib.hid hfe
 have g3b : (fe != 0) = g3 := by
  rw [← hg3, ← hfe]
  unfold firT
  rw [if_neg (by rw [chkT_zero hok.sl]; simp)]
  cases fstT s.sl <;> simp
 clear h hok hck hlft hfe hg2 hg3
 unfold swV swC
 obtain ⟨X, hX⟩ : ∃ X, w.alloc (.cells (zkx s a0 c0 a1 c1 a2 c2 a3 c3 a4 c4 a5 c5 a6 c6 a7 c7).toArray 35) = X := ⟨_, rfl⟩
 have kX : Blk X w.heap.size 35 (zkx s a0 c0 a1 c1 a2 c2 a3 c3 a4 c4 a5 c5 a6 c6 a7 c7).toArray := by rw [← hX]; exact zbk
 have BX : Below w.heap.size w X := by rw [← hX]; exact zbl
 have HO : Hid (OwnR intE X (w.heap.size + 1) (.slice none 0 0) []) := OwnR.nil
 go_enter Tryz.func46, Tryz.ntmps46
 have zkX := kX.lt
 obtain ⟨q0, -, -, q3, -⟩ := zc11 kX
 cases g1 with
 | false =>
  go_upto_region 4 with fail
  (try rw [hX])
  clear hX
  clear zkX q0 q3
  have zkX := kX.lt
  obtain ⟨-, -, -, -, -, -, q6, q7, q8, -⟩ := zc11 kX
  go_wp2_with fail
  refine (dLeft_any a5 a6 c5 c6 s.dk X (HS.out.sw.r6.ext BX) (by omega) (by omega)).mono ?_
  rintro e1_ u11 ⟨rfl, hb1_⟩
  have BXL := zbt BX hb1_
  replace kX := kX.below_ hb1_ kX.lt
  have HOL : Hid (OwnR intE u11 (w.heap.size + 1) (.slice none 0 0) ([] : List Int)) := HO.out.ext hb1_
  clear hb1_
  clear zkX q6 q7 q8
  rw [HL1.out, HL2.out]
  cases g2 with
  | false =>
   go_upto_region 7 with fail
   have zkX := kX.lt
   obtain ⟨-, q1, q2, -⟩ := zc11 kX
   go_wp2_with fail
   refine (sFirst_any a0 a1 c0 c1 s.sl u11 (HS.out.sw.r0.ext BXL) (HS.out.sw.r1.ext BXL) (by omega) (by omega)).mono ?_
   rintro e2_ u22 ⟨rfl, hb2_⟩
   have BXLL := zbt BXL hb2_
   replace kX := kX.below_ hb2_ kX.lt
   have HOLL : Hid (OwnR intE u22 (w.heap.size + 1) (.slice none 0 0) ([] : List Int)) := HOL.out.ext hb2_
   clear hb2_
   clear zkX q1 q2
   rw [HF2.out]
   cases g3 with
   | false =>
    go_wp2_with fail
    go_ret
    have HE : hinW s = ([] : List Int) := by rw [HIN.out]; rfl
    exact ⟨none, 0, by rw [HE]; rfl, by rw [HE]; exact (HOLL.out.sr).2, BXLL⟩
   | true =>
    go_upto_region 10 with (at_builtin; refine wpList_ownR intE rfl (.tmp 40) (.tmp 41) _ rfl rfl _ (w.heap.size + 1) (by have := kX.lt; simp; omega) none 0 0 ([] : List Int) rfl (HOLL.out.ext ((Below.refl _ _).alloc (Nat.le_refl _) _)) (some ⟨u22.heap.size, 0, none⟩) 1 1 [(4 : Int)] rfl (SR.of_blk (E := intE) (l := [(4 : Int)]) (t := 3) (Blk.new_ rfl rfl)) (by simp) (by simp) rfl rfl ?_; rw [show (([] : List Int) ++ [(4 : Int)]).length = 1 from rfl]; intro A2_2 c2_2 v2_2 hO_ hb_ hg_)
    have HOLLA : Hid (OwnR intE v2_2 (w.heap.size + 1) (.slice A2_2 1 c2_2) ([(4 : Int)] : List Int)) := hO_
    have ha_ : Below w.heap.size u22 v2_2 := (Below.alloc (Below.refl _ _) BXLL.size _).trans (hb_.mono (by omega))
    have BXLLA : Below w.heap.size w v2_2 := BXLL.trans ha_
    replace kX := (kX.alloc_ _).below_ hb_ (by omega)
    clear hO_ hb_ hg_ ha_
    go_wp2_with fail
    go_ret
    have HE : hinW s = ([(4 : Int)] : List Int) := by rw [HIN.out]; rfl
    exact ⟨A2_2, c2_2, by rw [HE]; rfl, by rw [HE]; exact (HOLLA.out.sr).2, BXLLA⟩
  | true =>
   go_upto_region 7 with (at_builtin; refine wpList_ownR intE rfl (.tmp 29) (.tmp 30) _ rfl rfl _ (w.heap.size + 1) (by have := kX.lt; simp; omega) none 0 0 ([] : List Int) rfl (HOL.out.ext ((Below.refl _ _).alloc (Nat.le_refl _) _)) (some ⟨u11.heap.size, 0, none⟩) 1 1 [(3 : Int)] rfl (SR.of_blk (E := intE) (l := [(3 : Int)]) (t := 3) (Blk.new_ rfl rfl)) (by simp) (by simp) rfl rfl ?_; rw [show (([] : List Int) ++ [(3 : Int)]).length = 1 from rfl]; intro A1_1 c1_1 v1_1 hO_ hb_ hg_)
   have HOLA : Hid (OwnR intE v1_1 (w.heap.size + 1) (.slice A1_1 1 c1_1) ([(3 : Int)] : List Int)) := hO_
   have ha_ : Below w.heap.size u11 v1_1 := (Below.alloc (Below.refl _ _) BXL.size _).trans (hb_.mono (by omega))
   have BXLA : Below w.heap.size w v1_1 := BXL.trans ha_
   replace kX := (kX.alloc_ _).below_ hb_ (by omega)
   clear hO_ hb_ hg_ ha_
   have zkX := kX.lt
   obtain ⟨-, q1, q2, -⟩ := zc11 kX
   go_wp2_with fail
   refine (sFirst_any a0 a1 c0 c1 s.sl v1_1 (HS.out.sw.r0.ext BXLA) (HS.out.sw.r1.ext BXLA) (by omega) (by omega)).mono ?_
   rintro e2_ u22 ⟨rfl, hb2_⟩
   have BXLAL := zbt BXLA hb2_
   replace kX := kX.below_ hb2_ kX.lt
   have HOLAL : Hid (OwnR intE u22 (w.heap.size + 1) (.slice A1_1 1 c1_1) ([(3 : Int)] : List Int)) := HOLA.out.ext hb2_
   clear hb2_
   clear zkX q1 q2
   rw [HF2.out]
   cases g3 with
   | false =>
    go_wp2_with fail
    go_ret
    have HE : hinW s = ([(3 : Int)] : List Int) := by rw [HIN.out]; rfl
    exact ⟨A1_1, c1_1, by rw [HE]; rfl, by rw [HE]; exact (HOLAL.out.sr).2, BXLAL⟩
   | true =>
    go_upto_region 10 with (at_builtin; refine wpList_ownR intE rfl (.tmp 40) (.tmp 41) _ rfl rfl _ (w.heap.size + 1) (by have := kX.lt; simp; omega) A1_1 c1_1 1 ([(3 : Int)] : List Int) rfl (HOLAL.out.ext ((Below.refl _ _).alloc (Nat.le_refl _) _)) (some ⟨u22.heap.size, 0, none⟩) 1 1 [(4 : Int)] rfl (SR.of_blk (E := intE) (l := [(4 : Int)]) (t := 3) (Blk.new_ rfl rfl)) (by simp) (by simp) rfl rfl ?_; rw [show (([(3 : Int)] : List Int) ++ [(4 : Int)]).length = 2 from rfl]; intro A2_2 c2_2 v2_2 hO_ hb_ hg_)
    have HOLALA : Hid (OwnR intE v2_2 (w.heap.size + 1) (.slice A2_2 2 c2_2) ([(3 : Int), (4 : Int)] : List Int)) := hO_
    have ha_ : Below w.heap.size u22 v2_2 := (Below.alloc (Below.refl _ _) BXLAL.size _).trans (hb_.mono (by omega))
    have BXLALA : Below w.heap.size w v2_2 := BXLAL.trans ha_
    replace kX := (kX.alloc_ _).below_ hb_ (by omega)
    clear hO_ hb_ hg_ ha_
    go_wp2_with fail
    go_ret
    have HE : hinW s = ([(3 : Int), (4 : Int)] : List Int) := by rw [HIN.out]; rfl
    exact ⟨A2_2, c2_2, by rw [HE]; rfl, by rw [HE]; exact (HOLALA.out.sr).2, BXLALA⟩
 | true =>
  go_upto_region 3 with fail
  (try rw [hX])
  clear hX
  clear zkX q0 q3
  go_upto_region 4 with (at_builtin; refine wpList_ownR intE rfl (.tmp 14) (.tmp 15) _ rfl rfl _ (w.heap.size + 1) (by have := kX.lt; simp; omega) none 0 0 ([] : List Int) rfl (HO.out.ext ((Below.refl _ _).alloc (Nat.le_refl _) _)) (some ⟨X.heap.size, 0, none⟩) 1 1 [(2 : Int)] rfl (SR.of_blk (E := intE) (l := [(2 : Int)]) (t := 3) (Blk.new_ rfl rfl)) (by simp) (by simp) rfl rfl ?_; rw [show (([] : List Int) ++ [(2 : Int)]).length = 1 from rfl]; intro A0_0 c0_0 v0_0 hO_ hb_ hg_)
  have HOA : Hid (OwnR intE v0_0 (w.heap.size + 1) (.slice A0_0 1 c0_0) ([(2 : Int)] : List Int)) := hO_
  have ha_ : Below w.heap.size X v0_0 := (Below.alloc (Below.refl _ _) BX.size _).trans (hb_.mono (by omega))
  have BXA : Below w.heap.size w v0_0 := BX.trans ha_
  replace kX := (kX.alloc_ _).below_ hb_ (by omega)
  clear hO_ hb_ hg_ ha_
  have zkX := kX.lt
  obtain ⟨-, -, -, -, -, -, q6, q7, q8, -⟩ := zc11 kX
  go_wp2_with fail
  refine (dLeft_any a5 a6 c5 c6 s.dk v0_0 (HS.out.sw.r6.ext BXA) (by omega) (by omega)).mono ?_
  rintro e1_ u11 ⟨rfl, hb1_⟩
  have BXAL := zbt BXA hb1_
  replace kX := kX.below_ hb1_ kX.lt
  have HOAL : Hid (OwnR intE u11 (w.heap.size + 1) (.slice A0_0 1 c0_0) ([(2 : Int)] : List Int)) := HOA.out.ext hb1_
  clear hb1_
  clear zkX q6 q7 q8
  rw [HL1.out, HL2.out]
  cases g2 with
  | false =>
   go_upto_region 7 with fail
   have zkX := kX.lt
   obtain ⟨-, q1, q2, -⟩ := zc11 kX
   go_wp2_with fail
   refine (sFirst_any a0 a1 c0 c1 s.sl u11 (HS.out.sw.r0.ext BXAL) (HS.out.sw.r1.ext BXAL) (by omega) (by omega)).mono ?_
   rintro e2_ u22 ⟨rfl, hb2_⟩
   have BXALL := zbt BXAL hb2_
   replace kX := kX.below_ hb2_ kX.lt
   have HOALL : Hid (OwnR intE u22 (w.heap.size + 1) (.slice A0_0 1 c0_0) ([(2 : Int)] : List Int)) := HOAL.out.ext hb2_
   clear hb2_
   clear zkX q1 q2
   rw [HF2.out]
   cases g3 with
   | false =>
    go_wp2_with fail
    go_ret
    have HE : hinW s = ([(2 : Int)] : List Int) := by rw [HIN.out]; rfl
    exact ⟨A0_0, c0_0, by rw [HE]; rfl, by rw [HE]; exact (HOALL.out.sr).2, BXALL⟩
   | true =>
    go_upto_region 10 with (at_builtin; refine wpList_ownR intE rfl (.tmp 40) (.tmp 41) _ rfl rfl _ (w.heap.size + 1) (by have := kX.lt; simp; omega) A0_0 c0_0 1 ([(2 : Int)] : List Int) rfl (HOALL.out.ext ((Below.refl _ _).alloc (Nat.le_refl _) _)) (some ⟨u22.heap.size, 0, none⟩) 1 1 [(4 : Int)] rfl (SR.of_blk (E := intE) (l := [(4 : Int)]) (t := 3) (Blk.new_ rfl rfl)) (by simp) (by simp) rfl rfl ?_; rw [show (([(2 : Int)] : List Int) ++ [(4 : Int)]).length = 2 from rfl]; intro A2_2 c2_2 v2_2 hO_ hb_ hg_)
    have HOALLA : Hid (OwnR intE v2_2 (w.heap.size + 1) (.slice A2_2 2 c2_2) ([(2 : Int), (4 : Int)] : List Int)) := hO_
    have ha_ : Below w.heap.size u22 v2_2 := (Below.alloc (Below.refl _ _) BXALL.size _).trans (hb_.mono (by omega))
    have BXALLA : Below w.heap.size w v2_2 := BXALL.trans ha_
    replace kX := (kX.alloc_ _).below_ hb_ (by omega)
    clear hO_ hb_ hg_ ha_
    go_wp2_with fail
    go_ret
    have HE : hinW s = ([(2 : Int), (4 : Int)] : List Int) := by rw [HIN.out]; rfl
    exact ⟨A2_2, c2_2, by rw [HE]; rfl, by rw [HE]; exact (HOALLA.out.sr).2, BXALLA⟩
  | true =>
   go_upto_region 7 with (at_builtin; refine wpList_ownR intE rfl (.tmp 29) (.tmp 30) _ rfl rfl _ (w.heap.size + 1) (by have := kX.lt; simp; omega) A0_0 c0_0 1 ([(2 : Int)] : List Int) rfl (HOAL.out.ext ((Below.refl _ _).alloc (Nat.le_refl _) _)) (some ⟨u11.heap.size, 0, none⟩) 1 1 [(3 : Int)] rfl (SR.of_blk (E := intE) (l := [(3 : Int)]) (t := 3) (Blk.new_ rfl rfl)) (by simp) (by simp) rfl rfl ?_; rw [show (([(2 : Int)] : List Int) ++ [(3 : Int)]).length = 2 from rfl]; intro A1_1 c1_1 v1_1 hO_ hb_ hg_)
   have HOALA : Hid (OwnR intE v1_1 (w.heap.size + 1) (.slice A1_1 2 c1_1) ([(2 : Int), (3 : Int)] : List Int)) := hO_
   have ha_ : Below w.heap.size u11 v1_1 := (Below.alloc (Below.refl _ _) BXAL.size _).trans (hb_.mono (by omega))
   have BXALA : Below w.heap.size w v1_1 := BXAL.trans ha_
   replace kX := (kX.alloc_ _).below_ hb_ (by omega)
   clear hO_ hb_ hg_ ha_
   have zkX := kX.lt
   obtain ⟨-, q1, q2, -⟩ := zc11 kX
   go_wp2_with fail
   refine (sFirst_any a0 a1 c0 c1 s.sl v1_1 (HS.out.sw.r0.ext BXALA) (HS.out.sw.r1.ext BXALA) (by omega) (by omega)).mono ?_
   rintro e2_ u22 ⟨rfl, hb2_⟩
   have BXALAL := zbt BXALA hb2_
   replace kX := kX.below_ hb2_ kX.lt
   have HOALAL : Hid (OwnR intE u22 (w.heap.size + 1) (.slice A1_1 2 c1_1) ([(2 : Int), (3 : Int)] : List Int)) := HOALA.out.ext hb2_
   clear hb2_
   clear zkX q1 q2
   rw [HF2.out]
   cases g3 with
   | false =>
    go_wp2_with fail
    go_ret
    have HE : hinW s = ([(2 : Int), (3 : Int)] : List Int) := by rw [HIN.out]; rfl
    exact ⟨A1_1, c1_1, by rw [HE]; rfl, by rw [HE]; exact (HOALAL.out.sr).2, BXALAL⟩
   | true =>
    go_upto_region 10 with (at_builtin; refine wpList_ownR intE rfl (.tmp 40) (.tmp 41) _ rfl rfl _ (w.heap.size + 1) (by have := kX.lt; simp; omega) A1_1 c1_1 2 ([(2 : Int), (3 : Int)] : List Int) rfl (HOALAL.out.ext ((Below.refl _ _).alloc (Nat.le_refl _) _)) (some ⟨u22.heap.size, 0, none⟩) 1 1 [(4 : Int)] rfl (SR.of_blk (E := intE) (l := [(4 : Int)]) (t := 3) (Blk.new_ rfl rfl)) (by simp) (by simp) rfl rfl ?_; rw [show (([(2 : Int), (3 : Int)] : List Int) ++ [(4 : Int)]).length = 3 from rfl]; intro A2_2 c2_2 v2_2 hO_ hb_ hg_)
    have HOALALA : Hid (OwnR intE v2_2 (w.heap.size + 1) (.slice A2_2 3 c2_2) ([(2 : Int), (3 : Int), (4 : Int)] : List Int)) := hO_
    have ha_ : Below w.heap.size u22 v2_2 := (Below.alloc (Below.refl _ _) BXALAL.size _).trans (hb_.mono (by omega))
    have BXALALA : Below w.heap.size w v2_2 := BXALAL.trans ha_
    replace kX := (kX.alloc_ _).below_ hb_ (by omega)
    clear hO_ hb_ hg_ ha_
    go_wp2_with fail
    go_ret
    have HE : hinW s = ([(2 : Int), (3 : Int), (4 : Int)] : List Int) := by rw [HIN.out]; rfl
    exact ⟨A2_2, c2_2, by rw [HE]; rfl, by rw [HE]; exact (HOALALA.out.sr).2, BXALALA⟩
theorem ownBlock_slice (A : Option Addr) (n c : Nat) : Value.ownBlock (.slice A n c) = A.map (·.block) := by cases A <;> rfl
def Near (A : Option Addr) (c : Nat) (w : World) (A' : Option Addr) : Prop := (A'.map (·.block) = A.map (·.block) ∧ c ≠ 0) ∨ ∀ b, A'.map (·.block) = some b → w.heap.size ≤ b
theorem run_ownR2 {α : Type} (E : Elt Tryz.prog α) (ty : TypeId) (w : World) (base : Nat) (hbase : base ≤ w.heap.size) (A : Option Addr) (c : Nat) (l : List α) (h : OwnR E w base (.slice A l.length c) l) (B : Option Addr) (d : Nat) (k : List α) (hk : SR E w B k) (hp : 0 < k.length) (hl : l.length + k.length ≤ 10000) :
  ∃ A' c' w', (Builtin.append_ #[E.s, E.s] ty #[.slice A l.length c, .slice B k.length d]).run Tryz.prog w = .ok (.slice A' (l ++ k).length c') w' ∧ OwnR E w' base (.slice A' (l ++ k).length c') (l ++ k) ∧ w.grownBy w' (Value.ownBlock (.slice A l.length c)) ∧ (A'.map (·.block) = A.map (·.block) ∨ A'.map (·.block) = some w.heap.size) := by
 obtain ⟨i0, hi, hz0, hz1, hz2⟩ := info_parts E.hi
 have hpos := E.pos
 obtain ⟨hb1, hb2⟩ := E.few
 obtain ⟨b, off, rfl, hb, hc⟩ := hk (SR.len_pos hp)
 have hk' : SR E w (some ⟨b, off, none⟩) k := hk
 obtain ⟨v', w', hrun, h2, h3, _, h5⟩ := run_append_own_at (P := Tryz.prog) w base E.s ty E.e i0 _ E.sz E.bytes E.hs hi hz0 hz1 hz2 E.hz hpos _ l.length (E.flat l) h ⟨b, off, none⟩ k.length d (E.flat k) (E.flat_length k) (SR.cells hk') (E.flat_cells k) (by unfold maxLen; omega) (by have := Nat.mul_le_mul (show l.length + k.length ≤ 10000 from hl) hb1; omega) hbase
 have hO : OwnR E w' base v' (l ++ k) := by
  unfold OwnR
  rw [E.flat_append, List.length_append]
  exact h2
 have hv : ∃ A' c', v' = .slice A' (l ++ k).length c' := by
  obtain ⟨_, ⟨e, hn⟩ | ⟨g, cap, cur, e, _⟩⟩ := hO
  ·exact ⟨none, 0, by rw [e, hn]⟩
  ·exact ⟨_, _, e⟩
 obtain ⟨A', c', rfl⟩ := hv
 rw [ownBlock_slice, ownBlock_slice] at h5
 exact ⟨A', c', w', hrun, hO, h3, h5⟩
theorem run_appE2 {α : Type} (E : Elt Tryz.prog α) (ty : TypeId) (w : World) (base : Nat) (hbase : base ≤ w.heap.size) (A : Option Addr) (c : Nat) (l : List α) (h : OwnE E w base A c l) (B : Option Addr) (d : Nat) (k : List α) (hk : SR E w B k) (hp : 0 < k.length) (hl : l.length + k.length ≤ 10000) :
  ∃ A' c' w', (Builtin.append_ #[E.s, E.s] ty #[.slice A l.length c, .slice B k.length d]).run Tryz.prog w = .ok (.slice A' (l ++ k).length c') w' ∧ OwnE E w' base A' c' (l ++ k) ∧ Below base w w' ∧ KeptE A c w w' ∧ Near A c w A' := by
 have hne : l ++ k ≠ [] := fun e => by rw [(List.append_eq_nil_iff.1 e).2] at hp; simp at hp
 by_cases hc : c = 0
 ·have hl0 : l = [] := by
   have := h.cr.2
   exact List.length_eq_zero_iff.1 (by omega)
  subst hl0 hc
  obtain ⟨A', c', w', hrun, h2, h3, h4⟩ := run_appR E ty w w.heap.size (Nat.le_refl _) A 0 [] (.inl ⟨rfl, SR.nil⟩) B d k hk hl
  have ho := (h4 (.inl rfl)).resolve_left hne
  refine ⟨A', c', w', hrun, ⟨.inr (ho.base_ hbase), .inr (ho.base_ hbase)⟩, h3.mono hbase, fun b hb _ => h3.block b hb, .inr fun b hb => ?_⟩
  obtain ⟨_, ⟨e, hn⟩ | ⟨g, cap, cur, e, hg, _⟩⟩ := ho
  ·exact absurd (List.length_eq_zero_iff.1 hn) hne
  ·injection e with e
   subst e
   simp at hb
   omega
 ·have h1 := h.row hc
  obtain ⟨g, e, hg1, hg2⟩ := h.blk hc
  obtain ⟨A', c', w', hrun, h2, h4, h5⟩ := run_ownR2 E ty w base hbase A c l h1 B d k hk hp hl
  refine ⟨A', c', w', hrun, ⟨.inr h2, .inr h2⟩, ?_, fun b hb hn => h4.block b hb ?_, ?_⟩
  ·refine (Below.refl base w).grown h4 hbase (fun r er => ?_)
   subst e
   simp [Value.ownBlock] at er
   omega
  ·have := hn hc
   subst e
   intro e
   exact this (by simpa [Value.ownBlock] using e.symm)
  ·rcases h5 with h5 | h5
   ·exact .inl ⟨h5, hc⟩
   ·exact .inr fun b hb => by rw [h5] at hb; injection hb with hb; omega
theorem wpList_appE2 {α : Type} (E : Elt Tryz.prog α) {ops : Array Oper} {rest : List Oper} {o : Oper} {a : Act} {Q : Exit → Act → World → Prop} (hgd : o.guard = none) (s x : Operand) (t : TypeId) (ht : t = E.s)
  (ho : o.op = .call { callee := .builtin .append, args := #[s, x], argTypes := #[t, t] })
  (w : World) (base : Nat) (hbase : base ≤ w.heap.size) (A : Option Addr) (c n : Nat) (l : List α) (hn : n = l.length) (h : OwnE E w base A c l) (B : Option Addr) (d n' : Nat) (k : List α) (hn' : n' = k.length) (hk : SR E w B k) (hp : 0 < k.length) (hl : l.length + k.length ≤ 10000)
  (hs : a.eval s = .slice A n c) (hx : a.eval x = .slice B n' d)
  (hK : ∀ A' c' w', OwnE E w' base A' c' (l ++ k) → Below base w w' → KeptE A c w w' → Near A c w A' → wpList Tryz.prog ops Q rest (a.put o.dst (.slice A' (l ++ k).length c')) w') : wpList Tryz.prog ops Q (o :: rest) a w := by
 subst hn hn' ht
 refine wpList_plain hgd fun K' hK' => ?_
 obtain ⟨A', c', w', hrun, h2, h3, h4, h5⟩ := run_appE2 E o.type w base hbase A c l h B d k hk hp hl
 unfold Oper.wp execOp
 simp only [ho, resolve, invoke, builtin, Sem.run_bind, Sem.run_pure, Result.andThen_ok, List.map_toArray, List.map_cons, List.map_nil, hs, hx, hrun]
 exact hK' _ _ (hK A' c' w' h2 h3 h4 h5)
theorem Part.near {α : Type} {E : Elt Tryz.prog α} {w : World} {base : Nat} {A A' A2 : Option Addr} {c c' c2 : Nat} {l : List α} (hp : Part A c A' c') (h : OwnE E w base A c l) (hn : Near A' c' w A2) : Part A c A2 c2 := fun hc hc' e => by
 obtain ⟨g, e1, _, h2⟩ := h.blk hc
 rcases hn with ⟨e3, h3⟩ | hn
 ·exact hp hc h3 (e.trans e3)
 ·subst e1
  have := hn g (by rw [← e]; rfl)
  omega
theorem SwO.farB {w : World} {base B : Nat} {L : Lay} {s : Swp} {cs : Array Value} (h : SwO w base L s) (hb : Blk w B 87 cs) (i : Nat) (u : Value) : SwO (w.setCell ⟨B, i, none⟩ u) base L s :=
 ⟨h.o0.farB hb (by decide) i u, h.o1.farB hb (by decide) i u, h.o2.farB hb (by decide) i u, h.o3.farB hb (by decide) i u, h.o4.farB hb (by decide) i u, h.o5.farB hb (by decide) i u, h.o6.farB hb (by decide) i u, h.o7.farB hb (by decide) i u, h.p0, h.p7⟩
structure SwO' (w : World) (base : Nat) (L : Lay) (s : Swp) : Prop where
 o0 : OwnE intE w base L.a0 L.c0 s.sl.refs
 o1 : OwnE boolE w base L.a1 L.c1 s.sl.busy
 o2 : OwnM wrE w base L.a2 L.c2 s.wr
 o3 : OwnE rdE w base L.a3 L.c3 s.rd
 o5 : OwnE ctE w base L.a5 L.c5 s.dk.cells
 o6 : OwnE jbE w base L.a6 L.c6 s.dk.jobs
 o7 : OwnE intE w base L.a7 L.c7 s.po.free
theorem SwO.keptD {w w' : World} {base : Nat} {L : Lay} {s : Swp} (h : SwO w base L s) (hk : KeptE L.a4 L.c4 w w') : SwO' w' base L s :=
 ⟨h.o0.keptP h.p0 hk, h.o1.keptT h.o4 (by decide) hk, h.o2.keptT h.o4 (by decide) hk, h.o3.keptT h.o4 (by decide) hk, h.o5.keptT h.o4 (by decide) hk, h.o6.keptT h.o4 (by decide) hk, h.o7.keptP h.p7 hk⟩
theorem SwO.keptR {w w' : World} {base : Nat} {L : Lay} {s : Swp} (h : SwO w base L s) (hk : KeptE L.a3 L.c3 w w') {A : Option Addr} {c : Nat} {l : List Wr} (ho : OwnE rdE w' base A c l) : SwO w' base { L with a3 := A, c3 := c } { s with rd := l } :=
 ⟨h.o0.keptT h.o3 (by decide) hk, h.o1.keptT h.o3 (by decide) hk, h.o2.keptT h.o3 (by decide) hk, ho, h.o4.keptT h.o3 (by decide) hk, h.o5.keptT h.o3 (by decide) hk, h.o6.keptT h.o3 (by decide) hk, h.o7.keptT h.o3 (by decide) hk, h.p0, h.p7⟩
theorem OwnE.notT {α : Type} {E : Elt Tryz.prog α} {w : World} {base : Nat} {A : Option Addr} {c : Nat} {l : List α} (h : OwnE E w base A c l) {b : Nat} {t : TypeId} {cs : Array Value} (hb : Blk w b t cs) (ht : E.e ≠ t) : c ≠ 0 → A.map (·.block) ≠ some b := fun hc e => by
 obtain ⟨_, ⟨e2, _⟩ | ⟨g, cap, cur, e2, hg, hb', hr⟩⟩ := h.row hc
 ·injection e2 with _ _ e2; exact absurd e2 hc
 ·injection e2 with e2
  subst e2
  simp at e
  subst e
  unfold Blk at hb
  rw [hb'] at hb
  injection hb with hb
  injection hb with _ hb
  exact ht hb
theorem take_any (base B : Nat) (L : Lay) (s : Swp) (w : World) (h : WkAt w base B L s) (hok : OkP s.po) {d : Int} {l : List Int} (hfr : s.po.free = d :: l) (hdl : s.desc.length ≤ 1000) :
  Calls Tryz.prog 113 #[.pointer (some ⟨B, 0, none⟩)] w fun e w' => e = .returned (.int .i64 0) ∧ (∃ L', WkAt w' base B L' (describeW s)) ∧ Below base w w' := by
 obtain ⟨a0, c0, a1, c1, a2, c2, a3, c3, a4, c4, a5, c5, a6, c6, a7, c7⟩ := L
 obtain ⟨hB, hO, hlow⟩ := h
 have kB : Blk w B 87 (zkx s a0 c0 a1 c1 a2 c2 a3 c3 a4 c4 a5 c5 a6 c6 a7 c7).toArray := hB
 have HO := Lib.hid hO
 have HT := Lib.hid (tkP_ok hok hfr).1
 have hbl : base ≤ w.heap.size := by have := kB.lt; omega
 have hC := pTake_any a7 c7 s.po w hO.o7.sr (by have := hok.len; omega)
 rw [HT.out] at hC
 have HC := Lib.hid hC
 clear hB hO hC hok hfr
 have zB := kB.lt
 obtain ⟨-, -, -, -, -, -, -, -, -, q9, q10⟩ := zc11 kB
 go_enter Tryz.func113, Tryz.ntmps113
 go_wp2_with fail
 refine HC.out.mono ?_
 rintro e1 w1 ⟨A, c, rfl, ho, hb1⟩
 dsimp only at ho
 unfold poV
 dsimp only
 have kB1 := kB.below_ hb1 zB
 have zB1 := kB1.lt
 have M1 : SwO w1 base ⟨a0, c0, a1, c1, a2, c2, a3, c3, a4, c4, a5, c5, a6, c6, A, c⟩ { s with po := ⟨s.po.size, l⟩ } :=
  have x := HO.out.ext hb1
  ⟨x.o0, x.o1, x.o2, x.o3, x.o4, x.o5, x.o6, ho.base_ hbl, x.p0, (HO.out.o4.part ho (Nat.le_refl _)).symm⟩
 clear q9 q10 ho
 obtain ⟨-, -, -, -, -, -, -, -, -, q9, q10⟩ := zc11 kB1
 obtain ⟨-, -, -, -, -, -, -, -, -, qf9, qf10, -⟩ := zf kB1
 go_upto_region 3 with fail
 obtain ⟨W2, hW2⟩ : ∃ W2, (w1.setCell ⟨B, 9, none⟩ (.int .i64 s.po.size)).setCell ⟨B, 10, none⟩ (.slice A l.length c) = W2 := ⟨_, rfl⟩
 have kB2 : Blk W2 B 87 #[.int .i64 s.cap, .slice a0 s.sl.refs.length c0, .slice a1 s.sl.busy.length c1, .slice a2 s.wr.length c2, .slice a3 s.rd.length c3, .slice a4 s.desc.length c4, .slice a5 s.dk.cells.length c5, .slice a6 s.dk.jobs.length c6, .int .i64 s.dk.room, .int .i64 s.po.size, .slice A l.length c] := by rw [← hW2]; exact (kB1.set_ 9 _).set_ 10 _
 have M2 : SwO W2 base ⟨a0, c0, a1, c1, a2, c2, a3, c3, a4, c4, a5, c5, a6, c6, A, c⟩ { s with po := ⟨s.po.size, l⟩ } := by rw [← hW2]; exact (M1.farB kB1 9 _).farB (kB1.set_ 9 _) 10 _
 have B2 : Below base w W2 := by rw [← hW2]; exact ((hb1.mono hbl).setCell (p := ⟨B, 9, none⟩) hlow _).setCell (p := ⟨B, 10, none⟩) hlow _
 rw [hW2]
 clear hW2 q9 q10 qf9 qf10 M1 kB1 hb1
 have zB2 := kB2.lt
 have hb2 : base ≤ W2.heap.size := by omega
 obtain ⟨-, -, -, -, -, q5, -⟩ := zc11 kB2
 have qf5 := kB2.frozen_ 5
 have BA : Below W2.heap.size W2 (W2.alloc (.cells #[.int .i64 d] 3)) := (Below.refl _ _).alloc (Nat.le_refl _) _
 have M3 := M2.ext BA
 have kB3 := kB2.below_ BA zB2
 have HN := M3.o4.notT kB3 (by decide)
 have HM3 := Lib.hid M3
 have HKB3 := Lib.hid kB3
 have HNN := Lib.hid HN
 clear HN M3 kB3
 go_upto_region 5 with (at_builtin; refine wpList_appE2 intE rfl (.tmp 25) (.tmp 27) _ rfl rfl _ base (Nat.le_trans hb2 BA.size) a4 c4 s.desc.length s.desc rfl HM3.out.o4 (some ⟨W2.heap.size, 0, none⟩) 1 1 [d] rfl (SR.of_blk (E := intE) (l := [d]) (t := 3) (Blk.new_ rfl rfl)) (Nat.zero_lt_one) (by show s.desc.length + 1 ≤ 10000; omega) rfl rfl ?_; rw [show (s.desc ++ [d]).length = s.desc.length + 1 from by simp]; intro A5 cc5 w5 hO5 hb5 hk5 hn5; have kB5 := hk5.blk HKB3.out HNN.out; have zB5 := kB5.lt; have qq5 : w5.cell? ⟨B, 5, none⟩ = some (.slice a4 s.desc.length c4) := (by simpa using kB5.cell_ 5); have qqf5 := kB5.frozen_ 5)
 have M5 := HM3.out.keptD hk5
 have p05 := HM3.out.p0.near (c2 := cc5) HM3.out.o0 hn5
 have p75 := HM3.out.p7.near (c2 := cc5) HM3.out.o7 hn5
 have B5 : Below base w w5 := (B2.trans (BA.mono hb2)).trans hb5
 have HE : Hid (describeW s = { s with po := ⟨s.po.size, l⟩, desc := s.desc ++ [d] }) := by show _ = _; unfold describeW; rw [HT.out]
 have M6 : SwO (w5.setCell ⟨B, 5, none⟩ (.slice A5 (s.desc.length + 1) cc5)) base ⟨a0, c0, a1, c1, a2, c2, a3, c3, A5, cc5, a5, c5, a6, c6, A, c⟩ (describeW s) := by
  rw [HE.out]
  exact SwO.farB (s := { s with po := ⟨s.po.size, l⟩, desc := s.desc ++ [d] }) (L := ⟨a0, c0, a1, c1, a2, c2, a3, c3, A5, cc5, a5, c5, a6, c6, A, c⟩) ⟨M5.o0, M5.o1, M5.o2, M5.o3, hO5, M5.o5, M5.o6, M5.o7, p05, p75⟩ kB5 5 _
 have k6 : Blk (w5.setCell ⟨B, 5, none⟩ (.slice A5 (s.desc.length + 1) cc5)) B 87 (swC ⟨a0, c0, a1, c1, a2, c2, a3, c3, A5, cc5, a5, c5, a6, c6, A, c⟩ (describeW s)).toArray := by
  rw [HE.out]
  have := kB5.set_ 5 (.slice A5 (s.desc.length + 1) cc5)
  unfold swC
  dsimp only
  rw [show (s.desc ++ [d]).length = s.desc.length + 1 from by simp]
  exact this
 go_wp2_with fail
 go_ret
 exact ⟨rfl, ⟨⟨a0, c0, a1, c1, a2, c2, a3, c3, A5, cc5, a5, c5, a6, c6, A, c⟩, ⟨k6, M6, hlow⟩⟩, B5.setCell (p := ⟨B, 5, none⟩) hlow _⟩
end Go.Proofs.YthijbipidbjpfaaGreatDoor
