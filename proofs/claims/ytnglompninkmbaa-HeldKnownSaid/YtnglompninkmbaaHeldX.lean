/- Contracts of headgateref19: claims, Claim, Unclaim, Of. -/
import Derived.Test.YtnglompninkmbaaHeldT
namespace Go.Proofs.Ytnglompninkmbaa
open Go.RowKit Go.Maps

/-- claims: the number, or -1. -/
def rclS (l : List Wr) (p : Int) : Int := match l.findIdx? (fun x => decide (x.2.2 = p)) with | none => -1 | some i => (i : Int)
set_option maxRecDepth 100000 in
set_option maxHeartbeats 1000000 in
theorem rclaims_any (A : Option Addr) (c : Nat) (l : List Wr) (p : Int) (w : World) (ha : SW w A l) (la : l.length ≤ 1000) :
    Calls Try.prog 45 #[.slice A l.length c, .int .i64 p] w fun e w' => e = .returned (.int .i64 (rclS l p)) ∧ Below w.heap.size w w' := by
  have HA := Lib.hid ha
  clear ha
  go_enter Try.func45, Try.ntmps45
  go_wp2
  go_loopw [5] (fun i wr => ∃ k : Nat, k ≤ l.length ∧ i = .int .i64 k ∧ Hid (∀ j : Nat, j < k → ∀ x, l[j]? = some x → decide (x.2.2 = p) = false) ∧ Below w.heap.size w wr) (fun i _ => l.length - (intOf i).toNat)
  case atStart => exact ⟨0, by omega, rfl, fun j hj => absurd hj (by omega), Below.refl _ _⟩
  case round =>
    obtain ⟨k, hk, rfl, HR, hbw⟩ := hrel
    by_cases hlt : k < l.length
    · obtain ⟨b, off, x, rfl, hbl, hx, q0, q1, q2⟩ := (HA.out.ext hbw).at_ hlt
      have i1 : (k : Int) < l.length := by omega
      have HX := Lib.hid hx
      clear hx
      by_cases e1 : x.2.2 = p
      · have HF : Hid (rclS l p = k) := by show _ = _; unfold rclS; rw [findIdx_hit HR.out HX.out (by simpa using e1)]
        have e1' : (x.2.2 == p) = true := by simpa using e1
        go_wp2
        go_ret
        exact ⟨ret_int HF.out.symm, (by repeat' (first | with_reducible exact Below.refl _ _ | with_reducible assumption | with_reducible apply Below.drew | with_reducible apply below_drewN | with_reducible apply Below.alloc | with_reducible apply Below.setCell | (with_reducible refine Below.trans ?_ (Below.mono (by assumption) ?_)) | (simp; done) | (simp; omega) | omega | with_reducible apply le_size_alloc | with_reducible apply le_size_drewN | with_reducible apply le_size_drew | with_reducible apply le_size_setCell | refine Nat.le_trans ?_ (Below.size (by assumption))))⟩
      · have e1' : (x.2.2 == p) = false := by simpa using e1
        go_wp2
        go_roundw
        case rel =>
          refine ⟨k + 1, by omega, by go_num, fun j hj y hy => ?_, (by repeat' (first | with_reducible exact Below.refl _ _ | with_reducible assumption | with_reducible apply Below.drew | with_reducible apply below_drewN | with_reducible apply Below.alloc | with_reducible apply Below.setCell | (with_reducible refine Below.trans ?_ (Below.mono (by assumption) ?_)) | (simp; done) | (simp; omega) | omega | with_reducible apply le_size_alloc | with_reducible apply le_size_drewN | with_reducible apply le_size_drew | with_reducible apply le_size_setCell | refine Nat.le_trans ?_ (Below.size (by assumption))))⟩
          rcases (by omega : j < k ∨ j = k) with h | rfl
          · exact HR.out j h y hy
          · rw [HX.out] at hy
            injection hy with hy
            subst hy
            simpa using e1
        case measure => simp [intOf]; omega
    · have HF : Hid (rclS l p = -1) := by show _ = _; unfold rclS; rw [findIdx_take HR.out (by omega)]
      go_wp2
      go_ret
      exact ⟨ret_int HF.out.symm, (by repeat' (first | with_reducible exact Below.refl _ _ | with_reducible assumption | with_reducible apply Below.drew | with_reducible apply below_drewN | with_reducible apply Below.alloc | with_reducible apply Below.setCell | (with_reducible refine Below.trans ?_ (Below.mono (by assumption) ?_)) | (simp; done) | (simp; omega) | omega | with_reducible apply le_size_alloc | with_reducible apply le_size_drewN | with_reducible apply le_size_drew | with_reducible apply le_size_setCell | refine Nat.le_trans ?_ (Below.size (by assumption))))⟩

theorem chkG_vals : ∀ (l pre : List Wr), (chkG pre l).1 ≠ 6
  | [], pre => by simp [chkG]
  | x :: l, pre => by
    rw [chkG]
    split
    · split
      · simp
      · exact chkG_vals l _
    · simp
theorem chkS_vals (l : List Wr) : (chkS l).1 ≠ 6 := by
  unfold chkS
  split
  · simp
  · exact chkG_vals l []
theorem cla_ask {l : List Wr} {s p z : Int} (h : askS l s 0 p = z) (hz : z ≠ 0) : claS l s p = ([], z) := by
  unfold askS at h
  unfold claS findS
  by_cases h0 : (chkS l).1 ≠ 0
  · rw [if_pos h0] at h
    rw [if_pos h0, if_pos ⟨h0, chkS_vals l⟩, h]
  · rw [if_neg h0] at h
    rw [if_neg h0]
    by_cases h1 : 0 ≤ s ∧ s < 256
    · rw [if_pos h1]
      by_cases h2 : 1 ≤ p ∧ p ≤ 8
      · rw [if_pos ⟨(okW_two s 0).2 ⟨h1, by decide⟩, h2⟩] at h
        exact absurd h.symm hz
      · rw [if_neg (fun h => h2 h.2)] at h
        subst h
        cases l.findIdx? (fun x => decide (x.1 = s)) <;> simp [h2]
    · rw [if_neg (fun h => h1 ((okW_two s 0).1 h.1).1)] at h
      subst h
      rw [if_neg h1]
      simp
def claG (l : List Wr) (p : Int) (o : Option Nat) : List Wr × Int :=
  match o with
  | none => ([], 6)
  | some i => if (l.getD i (0, 0, 0)).2.2 ≠ 0 then ([], 9) else if (l.findIdx? (fun x => decide (x.2.2 = p))).isSome then ([], 7) else (l.set i ((l.getD i (0, 0, 0)).1, (l.getD i (0, 0, 0)).2.1, p), 0)
theorem cla_go {l : List Wr} {s p : Int} (h : askS l s 0 p = 0) : claS l s p = claG l p (l.findIdx? (fun x => decide (x.1 = s))) := by
  unfold askS at h
  unfold claS findS
  by_cases h0 : (chkS l).1 ≠ 0
  · rw [if_pos h0] at h
    exact absurd h h0
  · rw [if_neg h0] at h
    rw [if_neg h0]
    by_cases h1 : okW (s, 0, 0) = true ∧ (1 ≤ p ∧ p ≤ 8)
    · rw [if_pos ((okW_two s 0).1 h1.1).1]
      cases l.findIdx? (fun x => decide (x.1 = s)) <;> simp [h1.2, claG]
    · rw [if_neg h1] at h
      cases h
theorem clm_ask {l : List Wr} {p z : Int} (h : askS l 0 0 p = z) : clmS l p = (if z = 0 then (rclS l p, 0) else (0, z)) := by
  unfold askS at h
  unfold clmS
  by_cases h0 : (chkS l).1 ≠ 0
  · rw [if_pos h0] at h
    subst h
    rw [if_pos h0, if_neg h0]
  · rw [if_neg h0] at h
    rw [if_neg h0]
    by_cases h2 : 1 ≤ p ∧ p ≤ 8
    · rw [if_pos ⟨(okW_two 0 0).2 (by decide), h2⟩] at h
      subst h
      rw [if_pos h2, if_pos rfl]
      unfold rclS
      cases l.findIdx? (fun x => decide (x.2.2 = p)) <;> rfl
    · rw [if_neg (fun h => h2 h.2)] at h
      subst h
      rw [if_neg h2]
      rfl
theorem rclS_cases (l : List Wr) (p : Int) : (rclS l p = -1 ∧ l.findIdx? (fun x => decide (x.2.2 = p)) = none) ∨ ∃ i : Nat, rclS l p = (i : Int) ∧ i < l.length ∧ l.findIdx? (fun x => decide (x.2.2 = p)) = some i := by
  unfold rclS
  cases hq : l.findIdx? (fun x => decide (x.2.2 = p)) with
  | none => exact .inl ⟨rfl, rfl⟩
  | some k => exact .inr ⟨k, rfl, (List.findIdx?_eq_some_iff_getElem.1 hq).1, rfl⟩

set_option maxRecDepth 100000 in
set_option maxHeartbeats 4000000 in
theorem ROf_any (A : Option Addr) (c : Nat) (l : List Wr) (p : Int) (w : World) (ha : SW w A l) (la : l.length ≤ 1000) :
    Calls Try.prog 28 #[.slice A l.length c, .int .i64 p] w (OfPost (ofS l p) w) := by
  have HS := Lib.hid ha
  clear ha
  obtain ⟨z, hz⟩ : ∃ z, askS l 0 0 p = z := ⟨_, rfl⟩
  have hcl := clm_ask hz
  have HZ := Lib.hid hz
  clear hz
  by_cases h0 : z = 0
  · subst h0
    rw [if_pos rfl] at hcl
    rcases rclS_cases l p with ⟨h, _⟩ | ⟨i, h, hi, _⟩
    · have hF : Hid (ofS l p = ((0, 0, 0), false, 0)) := by show _ = _; unfold ofS; rw [hcl, h, if_pos (.inr (by decide))]
      have HR := Lib.hid h
      clear hcl h
      go_enter Try.func28, Try.ntmps28
      go_wp2_with fail
      refine (asks_any _ _ _ _ _ _ _ (HS.out.ext (by repeat' (first | with_reducible exact Below.refl _ _ | with_reducible assumption | with_reducible apply Below.drew | with_reducible apply below_drewN | with_reducible apply Below.alloc | with_reducible apply Below.setCell | (with_reducible refine Below.trans ?_ (Below.mono (by assumption) ?_)) | (simp; done) | (simp; omega) | omega | with_reducible apply le_size_alloc | with_reducible apply le_size_drewN | with_reducible apply le_size_drew | with_reducible apply le_size_setCell | refine Nat.le_trans ?_ (Below.size (by assumption))))) la HZ.out).mono ?_
      rintro e w1 ⟨rfl, hb1⟩
      go_wp2_with fail
      refine (rclaims_any _ _ _ _ _ (HS.out.ext (by repeat' (first | with_reducible exact Below.refl _ _ | with_reducible assumption | with_reducible apply Below.drew | with_reducible apply below_drewN | with_reducible apply Below.alloc | with_reducible apply Below.setCell | (with_reducible refine Below.trans ?_ (Below.mono (by assumption) ?_)) | (simp; done) | (simp; omega) | omega | with_reducible apply le_size_alloc | with_reducible apply le_size_drewN | with_reducible apply le_size_drew | with_reducible apply le_size_setCell | refine Nat.le_trans ?_ (Below.size (by assumption))))) la).mono ?_
      rw [HR.out]
      rintro e w2 ⟨rfl, hb2⟩
      obtain ⟨⟨k0, k1, k2⟩, ⟨f0, f1, f2⟩, kl, hbw⟩ := box3 rfl (hb1.trans (hb2.mono hb1.size))
      go_wp2_with fail
      refine bodyPost_ret (v := .tuple #[.agg #[.int .i64 0, .int .i64 0, .int .i64 0], .bool false, .int .i64 0]) (by simp [results, Try.results28, go_sem, k0, k1, k2]) rfl ?_
      unfold OfPost
      rw [hF.out]
      exact ⟨rfl, (by repeat' (first | with_reducible exact Below.refl _ _ | with_reducible assumption | with_reducible apply Below.drew | with_reducible apply below_drewN | with_reducible apply Below.alloc | with_reducible apply Below.setCell | (with_reducible refine Below.trans ?_ (Below.mono (by assumption) ?_)) | (simp; done) | (simp; omega) | omega | with_reducible apply le_size_alloc | with_reducible apply le_size_drewN | with_reducible apply le_size_drew | with_reducible apply le_size_setCell | refine Nat.le_trans ?_ (Below.size (by assumption))))⟩
    · obtain ⟨b, off, x, rfl, hb, hx, hc0, hc1, hc2⟩ := HS.out.at_ hi
      have hF : Hid (ofS l p = (x, true, 0)) := by
        show _ = _; unfold ofS; rw [hcl, h, if_neg (by simp), List.getD_eq_getElem?_getD]
        show (l[i]?.getD _, _, _) = _
        rw [hx]; rfl
      have i1 : (i : Int) < l.length := by omega
      have HR := Lib.hid h; have HX := Lib.hid hx
      clear hcl h hx
      go_enter Try.func28, Try.ntmps28
      go_wp2_with fail
      refine (asks_any _ _ _ _ _ _ _ (HS.out.ext (by repeat' (first | with_reducible exact Below.refl _ _ | with_reducible assumption | with_reducible apply Below.drew | with_reducible apply below_drewN | with_reducible apply Below.alloc | with_reducible apply Below.setCell | (with_reducible refine Below.trans ?_ (Below.mono (by assumption) ?_)) | (simp; done) | (simp; omega) | omega | with_reducible apply le_size_alloc | with_reducible apply le_size_drewN | with_reducible apply le_size_drew | with_reducible apply le_size_setCell | refine Nat.le_trans ?_ (Below.size (by assumption))))) la HZ.out).mono ?_
      rintro e w1 ⟨rfl, hb1⟩
      go_wp2_with fail
      refine (rclaims_any _ _ _ _ _ (HS.out.ext (by repeat' (first | with_reducible exact Below.refl _ _ | with_reducible assumption | with_reducible apply Below.drew | with_reducible apply below_drewN | with_reducible apply Below.alloc | with_reducible apply Below.setCell | (with_reducible refine Below.trans ?_ (Below.mono (by assumption) ?_)) | (simp; done) | (simp; omega) | omega | with_reducible apply le_size_alloc | with_reducible apply le_size_drewN | with_reducible apply le_size_drew | with_reducible apply le_size_setCell | refine Nat.le_trans ?_ (Below.size (by assumption))))) la).mono ?_
      rw [HR.out]
      rintro e w2 ⟨rfl, hb2⟩
      obtain ⟨⟨k0, k1, k2⟩, ⟨f0, f1, f2⟩, kl, hbw⟩ := box3 rfl (hb1.trans (hb2.mono hb1.size))
      have hd0 : w2.cell? ⟨b, off + i * 3, none⟩ = some (.int .i64 x.1) := cell_keep hbw hc0 hb
      have hd1 : w2.cell? ⟨b, off + i * 3 + 1, none⟩ = some (.int .i64 x.2.1) := cell_keep hbw hc1 hb
      have hd2 : w2.cell? ⟨b, off + i * 3 + 2, none⟩ = some (.int .i64 x.2.2) := cell_keep hbw hc2 hb
      obtain ⟨r0, r1, r2⟩ := cells3 k0 k1 k2 (.int .i64 x.1) (.int .i64 x.2.1) (.int .i64 x.2.2)
      have HRR := Lib.hid (And.intro r0 (And.intro r1 r2))
      clear r0 r1 r2
      go_wp2_with fail
      obtain ⟨r0, r1, r2⟩ := HRR.out
      refine bodyPost_ret (v := .tuple #[.agg #[.int .i64 x.1, .int .i64 x.2.1, .int .i64 x.2.2], .bool true, .int .i64 0]) (by simp [results, Try.results28, go_sem, r0, r1, r2]) rfl ?_
      unfold OfPost
      rw [hF.out]
      exact ⟨rfl, (by repeat' (first | with_reducible exact Below.refl _ _ | with_reducible assumption | with_reducible apply Below.drew | with_reducible apply below_drewN | with_reducible apply Below.alloc | with_reducible apply Below.setCell | (with_reducible refine Below.trans ?_ (Below.mono (by assumption) ?_)) | (simp; done) | (simp; omega) | omega | with_reducible apply le_size_alloc | with_reducible apply le_size_drewN | with_reducible apply le_size_drew | with_reducible apply le_size_setCell | refine Nat.le_trans ?_ (Below.size (by assumption))))⟩
  · rw [if_neg h0] at hcl
    have hF : Hid (ofS l p = ((0, 0, 0), false, z)) := by show _ = _; unfold ofS; rw [hcl, if_pos (.inl h0)]
    have hzb : (z != 0) = true := by simpa using h0
    clear hcl
    go_enter Try.func28, Try.ntmps28
    go_wp2_with fail
    refine (asks_any _ _ _ _ _ _ _ (HS.out.ext (by repeat' (first | with_reducible exact Below.refl _ _ | with_reducible assumption | with_reducible apply Below.drew | with_reducible apply below_drewN | with_reducible apply Below.alloc | with_reducible apply Below.setCell | (with_reducible refine Below.trans ?_ (Below.mono (by assumption) ?_)) | (simp; done) | (simp; omega) | omega | with_reducible apply le_size_alloc | with_reducible apply le_size_drewN | with_reducible apply le_size_drew | with_reducible apply le_size_setCell | refine Nat.le_trans ?_ (Below.size (by assumption))))) la HZ.out).mono ?_
    rintro e w1 ⟨rfl, hb1⟩
    obtain ⟨⟨k0, k1, k2⟩, ⟨f0, f1, f2⟩, kl, hbw⟩ := box3 rfl hb1
    go_wp2_with fail
    refine bodyPost_ret (v := .tuple #[.agg #[.int .i64 0, .int .i64 0, .int .i64 0], .bool false, .int .i64 z]) (by simp [results, Try.results28, go_sem, k0, k1, k2]) rfl ?_
    unfold OfPost
    rw [hF.out]
    exact ⟨rfl, (by repeat' (first | with_reducible exact Below.refl _ _ | with_reducible assumption | with_reducible apply Below.drew | with_reducible apply below_drewN | with_reducible apply Below.alloc | with_reducible apply Below.setCell | (with_reducible refine Below.trans ?_ (Below.mono (by assumption) ?_)) | (simp; done) | (simp; omega) | omega | with_reducible apply le_size_alloc | with_reducible apply le_size_drewN | with_reducible apply le_size_drew | with_reducible apply le_size_setCell | refine Nat.le_trans ?_ (Below.size (by assumption))))⟩

set_option maxRecDepth 100000 in
set_option maxHeartbeats 4000000 in
theorem RUnclaim_any (A : Option Addr) (c : Nat) (l : List Wr) (p : Int) (w : World) (ha : SW w A l) (la : l.length ≤ 1000) :
    Calls Try.prog 27 #[.slice A l.length c, .int .i64 p] w (UncPost (uncS l p) w) := by
  have HS := Lib.hid ha
  clear ha
  obtain ⟨z, hz⟩ : ∃ z, askS l 0 0 p = z := ⟨_, rfl⟩
  have hcl := clm_ask hz
  have HZ := Lib.hid hz
  clear hz
  by_cases h0 : z = 0
  · subst h0
    rw [if_pos rfl] at hcl
    rcases rclS_cases l p with ⟨h, _⟩ | ⟨i, h, hi, _⟩
    · have hF : Hid (uncS l p = (l, false, 0)) := by show _ = _; unfold uncS; rw [hcl, h, if_neg (by simp), if_pos (by decide)]
      have HR := Lib.hid h
      clear hcl h
      go_enter Try.func27, Try.ntmps27
      go_wp2_with (first | (go_at_call 39; with_reducible refine (asks_any _ _ _ _ _ _ _ HS.out la HZ.out).mono ?_; rintro e w1 ⟨rfl, hb1⟩) | (go_at_call 40; with_reducible refine (rown_any _ _ _ _ (HS.out.ext hb1) la).mono ?_; rintro e w2 ⟨A2, c2, rfl, hc2, hm2, hb2⟩) | (go_at_call 45; with_reducible refine (rclaims_any _ _ _ _ _ (HS.out.ext (hb1.trans (hb2.mono hb1.size))) la).mono ?_; rw [HR.out]; rintro e w3 ⟨rfl, hb3⟩))
      refine bodyPost_ret (v := .tuple #[.slice A2 l.length c2, .bool false, .int .i64 0]) (by simp [results, Try.results27, go_sem]) rfl ?_
      unfold UncPost
      rw [hF.out]
      exact ⟨A2, c2, rfl, hc2.cw.ext hb3, (hb1.trans (hb2.mono hb1.size)).trans (hb3.mono (Nat.le_trans hb1.size hb2.size))⟩
    · obtain ⟨x, hx⟩ : ∃ x, l[i]? = some x := ⟨_, List.getElem?_eq_getElem hi⟩
      have hF : Hid (uncS l p = (l.set i (x.1, x.2.1, 0), true, 0)) := by
        have hgd : l.getD i (0, 0, 0) = x := by rw [List.getD_eq_getElem?_getD, hx]; rfl
        show _ = _; unfold uncS; rw [hcl, h, if_neg (by simp), if_neg (by simp)]
        show (l.set i ((l.getD i (0, 0, 0)).1, (l.getD i (0, 0, 0)).2.1, 0), _, _) = _
        rw [hgd]
      have i1 : (i : Int) < l.length := by omega
      have HR := Lib.hid h; have HX := Lib.hid hx
      clear hcl h hx
      go_enter Try.func27, Try.ntmps27
      go_wp2_with (first | (go_at_call 39; with_reducible refine (asks_any _ _ _ _ _ _ _ HS.out la HZ.out).mono ?_; rintro e w1 ⟨rfl, hb1⟩) | (go_at_call 40; with_reducible refine (rown_any _ _ _ _ (HS.out.ext hb1) la).mono ?_; rintro e w2 ⟨A2, c2, rfl, hc2, hm2, hb2⟩))
      refine (rclaims_any _ _ _ _ _ (HS.out.ext (hb1.trans (hb2.mono hb1.size))) la).mono ?_
      rw [HR.out]
      rintro e w3 ⟨rfl, hb3⟩
      have hM3 : OwnW w2 w1.heap.size (.slice A2 l.length c2) l := Or.resolve_left hm2 (fun e => by rw [e] at hi; simp at hi)
      have hM4 : OwnW w3 w1.heap.size (.slice A2 l.length c2) l := Or.resolve_left (Mine.ext (.inr hM3) hb3) (fun e => by rw [e] at hi; simp at hi)
      have hcap := hc2.cw.2
      obtain ⟨g, rfl, hg, q0, q1, q2⟩ := hM4.put HX.out
      have Q2 := Lib.hid (q2 0)
      clear q2 hm2 hM3 hM4 hc2
      go_wp2_with fail
      refine bodyPost_ret (v := .tuple #[.slice (some ⟨g, 0, none⟩) l.length c2, .bool true, .int .i64 0]) (by simp [results, Try.results27, go_sem]) rfl ?_
      unfold UncPost
      rw [hF.out]
      exact ⟨_, c2, by simp, ⟨Q2.out, by simpa using hcap⟩, ((hb1.trans (hb2.mono hb1.size)).trans (hb3.mono (Nat.le_trans hb1.size hb2.size))).setCell (show w.heap.size ≤ g from Nat.le_trans hb1.size hg) _⟩
  · rw [if_neg h0] at hcl
    have hF : Hid (uncS l p = ([], false, z)) := by show _ = _; unfold uncS; rw [hcl, if_pos h0]
    have hzb : (z != 0) = true := by simpa using h0
    clear hcl
    go_enter Try.func27, Try.ntmps27
    go_wp2_with (first | (go_at_call 39; with_reducible refine (asks_any _ _ _ _ _ _ _ HS.out la HZ.out).mono ?_; rintro e w1 ⟨rfl, hb1⟩))
    refine bodyPost_ret (v := .tuple #[.slice none 0 0, .bool false, .int .i64 z]) (by simp [results, Try.results27, go_sem]) rfl ?_
    unfold UncPost
    rw [hF.out]
    exact ⟨none, 0, rfl, CW.nil, hb1⟩

set_option maxRecDepth 100000 in
set_option maxHeartbeats 4000000 in
theorem RClaim_any (A : Option Addr) (c : Nat) (l : List Wr) (s p : Int) (w : World) (ha : SW w A l) (la : l.length ≤ 1000) :
    Calls Try.prog 26 #[.slice A l.length c, .int .i64 s, .int .i64 p] w (AddPost (claS l s p) w) := by
  have HS := Lib.hid ha
  clear ha
  obtain ⟨z, hz⟩ : ∃ z, askS l s 0 p = z := ⟨_, rfl⟩
  have HZ := Lib.hid hz
  by_cases h0 : z = 0
  · subst h0
    have hcl := cla_go hz
    clear hz
    cases hi0 : l.findIdx? (fun x => decide (x.1 = s)) with
    | none =>
      have hR : Hid (rfnS l s = -1) := by show _ = _; unfold rfnS; rw [hi0]
      rw [hi0] at hcl
      have hF : Hid (claS l s p = ([], 6)) := hcl
      clear hcl hi0
      go_enter Try.func26, Try.ntmps26
      go_wp2_with (first | (go_at_call 39; with_reducible refine (asks_any _ _ _ _ _ _ _ HS.out la HZ.out).mono ?_; rintro e w1 ⟨rfl, hb1⟩) | (go_at_call 41; with_reducible refine (rfind_any _ _ _ _ _ (HS.out.ext hb1) la).mono ?_; rw [hR.out]; rintro e w2 ⟨rfl, hb2⟩))
      refine bodyPost_ret (v := .tuple #[.slice none 0 0, .int .i64 6]) (by simp [results, Try.results26, go_sem]) rfl ?_
      exact AddPost.bad hF.out (hb1.trans (hb2.mono hb1.size))
    | some i =>
      have hR : Hid (rfnS l s = (i : Int)) := by show _ = _; unfold rfnS; rw [hi0]
      have hi : i < l.length := (List.findIdx?_eq_some_iff_getElem.1 hi0).1
      obtain ⟨b, off, x, rfl, hb, hx, hc0, hc1, hc2⟩ := HS.out.at_ hi
      have hgd : l.getD i (0, 0, 0) = x := by rw [List.getD_eq_getElem?_getD, hx]; rfl
      rw [hi0] at hcl
      simp only [claG, hgd] at hcl
      have i1 : (i : Int) < l.length := by omega
      have hbs : ∀ W : World, Below w.heap.size w W → W.cell? ⟨b, off + i * 3 + 2, none⟩ = some (.int .i64 x.2.2) := fun W hW => cell_keep hW hc2 hb
      have HX := Lib.hid hx
      clear hi0 hx hgd hc0 hc1 hc2
      by_cases hx2 : x.2.2 = 0
      · rw [if_neg (fun h => h hx2)] at hcl
        rw [hx2] at hbs
        have HX2 := Lib.hid hx2
        clear hx2
        rcases rclS_cases l p with ⟨h, hq⟩ | ⟨j, h, hj, hq⟩
        · rw [hq, if_neg (by simp)] at hcl
          have HF := Lib.hid hcl; have HR := Lib.hid h
          clear hcl h hq
          go_enter Try.func26, Try.ntmps26
          go_wp2_with (first | (go_at_call 39; with_reducible refine (asks_any _ _ _ _ _ _ _ HS.out la HZ.out).mono ?_; rintro e w1 ⟨rfl, hb1⟩) | (go_at_call 41; with_reducible refine (rfind_any _ _ _ _ _ (HS.out.ext hb1) la).mono ?_; rw [hR.out]; rintro e w2 ⟨rfl, hb2⟩; have hb12 := hb1.trans (hb2.mono hb1.size); have hc2 := hbs w2 hb12) | (go_at_call 45; with_reducible refine (rclaims_any _ _ _ _ _ (HS.out.ext hb12) la).mono ?_; rw [HR.out]; rintro e w3 ⟨rfl, hb3⟩; have hb13 := hb12.trans (hb3.mono hb12.size)))
          refine (rown_any _ _ _ _ (HS.out.ext hb13) la).mono ?_
          rintro e w4 ⟨A2, c2, rfl, hc4, hm2, hb4⟩
          have hM3 : OwnW w4 w3.heap.size (.slice A2 l.length c2) l := Or.resolve_left hm2 (fun e => by rw [e] at hi; simp at hi)
          have hcap := hc4.cw.2
          obtain ⟨g, rfl, hg, q0, q1, q2⟩ := hM3.put HX.out
          have Q2 := Lib.hid (q2 p)
          clear q2 hm2 hM3 hc4
          go_wp2_with fail
          refine bodyPost_ret (v := .tuple #[.slice (some ⟨g, 0, none⟩) l.length c2, .int .i64 0]) (by simp [results, Try.results26, go_sem]) rfl ?_
          unfold AddPost
          rw [HF.out]
          exact ⟨_, c2, by simp, ⟨Q2.out, by simpa using hcap⟩, (hb13.trans (hb4.mono hb13.size)).setCell (show w.heap.size ≤ g from Nat.le_trans hb13.size hg) _⟩
        · rw [hq, if_pos (by simp)] at hcl
          have HF := Lib.hid hcl; have HR := Lib.hid h
          clear hcl h hq
          go_enter Try.func26, Try.ntmps26
          go_wp2_with (first | (go_at_call 39; with_reducible refine (asks_any _ _ _ _ _ _ _ HS.out la HZ.out).mono ?_; rintro e w1 ⟨rfl, hb1⟩) | (go_at_call 41; with_reducible refine (rfind_any _ _ _ _ _ (HS.out.ext hb1) la).mono ?_; rw [hR.out]; rintro e w2 ⟨rfl, hb2⟩; have hb12 := hb1.trans (hb2.mono hb1.size); have hc2 := hbs w2 hb12) | (go_at_call 45; with_reducible refine (rclaims_any _ _ _ _ _ (HS.out.ext hb12) la).mono ?_; rw [HR.out]; rintro e w3 ⟨rfl, hb3⟩; have hb13 := hb12.trans (hb3.mono hb12.size)))
          refine bodyPost_ret (v := .tuple #[.slice none 0 0, .int .i64 7]) (by simp [results, Try.results26, go_sem]) rfl ?_
          exact AddPost.bad HF.out hb13
      · rw [if_pos hx2] at hcl
        have hxb : (x.2.2 != 0) = true := by simpa using hx2
        have HF := Lib.hid hcl
        clear hcl
        go_enter Try.func26, Try.ntmps26
        go_wp2_with (first | (go_at_call 39; with_reducible refine (asks_any _ _ _ _ _ _ _ HS.out la HZ.out).mono ?_; rintro e w1 ⟨rfl, hb1⟩) | (go_at_call 41; with_reducible refine (rfind_any _ _ _ _ _ (HS.out.ext hb1) la).mono ?_; rw [hR.out]; rintro e w2 ⟨rfl, hb2⟩; have hb12 := hb1.trans (hb2.mono hb1.size); have hc2 := hbs w2 hb12))
        refine bodyPost_ret (v := .tuple #[.slice none 0 0, .int .i64 9]) (by simp [results, Try.results26, go_sem]) rfl ?_
        exact AddPost.bad HF.out hb12
  · have HF := Lib.hid (cla_ask hz h0)
    have hzb : (z != 0) = true := by simpa using h0
    clear hz
    go_enter Try.func26, Try.ntmps26
    go_wp2_with (first | (go_at_call 39; with_reducible refine (asks_any _ _ _ _ _ _ _ HS.out la HZ.out).mono ?_; rintro e w1 ⟨rfl, hb1⟩))
    refine bodyPost_ret (v := .tuple #[.slice none 0 0, .int .i64 z]) (by simp [results, Try.results26, go_sem]) rfl ?_
    exact AddPost.bad HF.out hb1
end Go.Proofs.Ytnglompninkmbaa
