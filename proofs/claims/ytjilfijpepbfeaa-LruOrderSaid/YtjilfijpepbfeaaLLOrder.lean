/- LruOrder: the statement holds for every list of numbers. -/
import Derived.Test.YtjilfijpepbfeaaLruO
import Derived.Test.YtjilfijpepbfeaaLLUndo
import Derived.Test.YtjilfijpepbfeaaLruS2
import Derived.Deep.DeepCutAuto
namespace Go.Proofs.Ytjilfijpepbfeaa
open Go.RowKit Go.Maps
open Go.ChangeShapes Go.WideShapes Go.ChangeAt Go.Joins

theorem Has_take (A : Option Addr) (c : Nat) (xs : List Int) (k : Nat) (x : Int) (w : World) (h : Sl w (.int .i64) A (xs.take k)) (hk : k ≤ xs.length) (hn : xs.length ≤ 100000) (hno : x ∉ xs.take k) :
    Calls Try.prog 36 #[.slice A k c, .int .i64 x] w fun e w' => e = .returned (.bool false) ∧ w = w' := by
  have e : (xs.take k).length = k := by simp; omega
  have := Has_any A c (xs.take k) x w h (by omega)
  rw [e, decide_eq_false hno] at this
  exact this
theorem Sl.take_ {α : Type} {w : World} {mk : α → Value} {A : Option Addr} {xs : List α} (h : Sl w mk A xs) (k : Nat) : Sl w mk A (xs.take k) := fun hp => by
  obtain ⟨b, off, e, hb, hc⟩ := h (by simp at hp; omega)
  refine ⟨b, off, e, hb, fun j x hx => hc j x ?_⟩
  rw [List.getElem?_take] at hx
  split at hx
  · exact hx
  · cases hx

/-- What is known of the order of valid lists. -/
structure Ord (xs ys os : List Int) : Prop where
  len : os.length = ys.length + xs.length
  nodup : os.Nodup
  whe : ∀ (i : Nat) x, os[i]? = some x → fWhere xs ys x = if i < ys.length then 2 else 1
  rng : ∀ x ∈ os, x ∈ xs ++ ys
theorem ord_of {xs ys : List Int} (h : (xs ++ ys).Nodup) : Ord xs ys (ys.reverse ++ xs.reverse) := by
  have hp : (ys.reverse ++ xs.reverse).Perm (xs ++ ys) := by
    rw [← List.reverse_append]; exact List.reverse_perm _
  have hd := (List.nodup_append.1 h).2.2
  refine ⟨by simp, hp.nodup_iff.2 h, fun i x hx => ?_, fun x hx => hp.mem_iff.1 hx⟩
  unfold fWhere
  by_cases hi : i < ys.length
  · rw [List.getElem?_append_left (by simpa using hi)] at hx
    have hm : x ∈ ys := by simpa using List.mem_of_getElem? hx
    rw [if_neg (fun hx' => hd x hx' x hm rfl), if_pos hm, if_pos hi]
  · rw [List.getElem?_append_right (by simpa using hi)] at hx
    have hm : x ∈ xs := by simpa using List.mem_of_getElem? hx
    rw [if_pos hm, if_neg hi]
theorem nodup_take {os : List Int} (h : os.Nodup) {k : Nat} {x : Int} (hx : os[k]? = some x) : x ∉ os.take k := fun hm => by
  have e := split_at' hx
  rw [e] at h
  exact (List.nodup_append.1 h).2.2 x hm x (by simp) rfl

set_option maxRecDepth 100000 in
set_option maxHeartbeats 4000000 in
theorem lruOrder_walk (A : Option Addr) (c : Nat) (nums : List Int) (w : World) (hs : Sl w (.int .i64) A nums) (_hw : ∀ x ∈ nums, (Lit.int .i64 x).wf = true) (hl0 : nums.length ≤ maxLen) :
    Calls Try.prog 6 #[.slice A nums.length c] w fun e w' => e = .returned (.bool true) ∧ Below w.heap.size w w' := by
  have hl : nums.length ≤ 9223372036854775807 := by unfold maxLen at hl0; exact hl0
  have HS := Lib.hid hs
  clear hs
  go_enter Try.func6, Try.ntmps6
  go_wp2_with fail
  refine (made_any _ _ _ _ HS.out hl).mono ?_
  rintro e w1 ⟨A1, c1, A2, c2, A3, c3, xs, ys, rs, rfl, o1, hmd, h1⟩
  have hchk := hmd.chk
  have hlen := hmd.len
  have hsz := hmd.size
  obtain ⟨hwx, hwy⟩ := hmd.wf
  have m1 := o1.mem (by omega) (by omega) (by omega) hwx hwy
  obtain ⟨os, hos⟩ : ∃ os, os = ys.reverse ++ xs.reverse := ⟨_, rfl⟩
  have hord : Ord xs ys os := by rw [hos]; exact ord_of hmd.nodup
  have HMD := Lib.hid hmd; have HCK := Lib.hid hchk; have HM1 := Lib.hid m1; have HOS := Lib.hid hos; have HORD := Lib.hid hord
  have hl1 : 16 ≤ rs.length := by omega
  have hl2 : rs.length ≤ 16 := by omega
  have hol := hord.len
  have hol1 : os.length ≤ 16 := by omega
  have hne : ((os.length : Int) != (xs.length : Int) + ys.length) = false := by simp; omega
  have hol2 : os.length ≤ ys.length + xs.length := by omega
  clear hmd hchk hwx hwy m1 hlen o1 hos hord hol
  go_wp2_with fail
  have hb1 : Below w1.heap.size w1 (w1.alloc (.cells #[.slice A1 xs.length c1, .slice A2 ys.length c2, .slice A3 rs.length c3] 25)) := (by repeat' (first | with_reducible exact Below.refl _ _ | with_reducible assumption | with_reducible apply Below.drew | with_reducible apply below_drewN | with_reducible apply Below.alloc | with_reducible apply Below.setCell | (with_reducible refine Below.trans ?_ (Below.mono (by assumption) ?_)) | (simp; done) | (simp; omega) | omega | with_reducible apply le_size_alloc | with_reducible apply le_size_drewN | with_reducible apply le_size_drew | with_reducible apply le_size_setCell | refine Nat.le_trans ?_ (Below.size (by assumption))))
  refine (Order_ok _ _ _ _ _ _ _ _ _ _ (HM1.out.ext hb1) HCK.out).mono ?_
  rw [← HOS.out]
  rintro e w2 ⟨B, d, rfl, oo, h2⟩
  have hd : os.length ≤ d := by
    rcases oo.form with ⟨e, rfl⟩ | ⟨g, cur, e, hbg, hh, hs, hm, hc⟩
    · simp
    · injection e with e1 e2 e3
      rw [e3]; exact hs
  have HSO := Lib.hid oo.sl_
  clear oo
  have p0 : w2.cell? ⟨w1.heap.size, 0, none⟩ = some (.slice A1 xs.length c1) := cell_keep h2 (by simp) (by simp)
  have p1 : w2.cell? ⟨w1.heap.size, 1, none⟩ = some (.slice A2 ys.length c2) := cell_keep h2 (by simp) (by simp)
  have p2 : w2.cell? ⟨w1.heap.size, 2, none⟩ = some (.slice A3 rs.length c3) := cell_keep h2 (by simp) (by simp)
  have z2 : w1.heap.size < w2.heap.size := by have := h2.size; simp at this; omega
  have M2 := Lib.hid ((HM1.out.ext hb1).ext h2)
  go_wp2_with fail
  refine (size_any _ _ _ _ _ _ _ _ _ _ (by omega) (by omega)).mono ?_
  rintro e w3 ⟨rfl, h3⟩
  go_wp2_with fail
  go_loopw [6] (fun i wr => ∃ k : Nat, k ≤ os.length ∧ i = .int .i64 k ∧ Below w2.heap.size w2 wr) (fun i _ => os.length - (intOf i).toNat)
  case atStart => exact ⟨0, by omega, rfl, h3⟩
  case round =>
    obtain ⟨k, hk, rfl, hb⟩ := hrel
    have q0 : wr.cell? ⟨w1.heap.size, 0, none⟩ = some (.slice A1 xs.length c1) := cell_keep hb p0 z2
    have q1 : wr.cell? ⟨w1.heap.size, 1, none⟩ = some (.slice A2 ys.length c2) := cell_keep hb p1 z2
    have q2 : wr.cell? ⟨w1.heap.size, 2, none⟩ = some (.slice A3 rs.length c3) := cell_keep hb p2 z2
    have zr : w1.heap.size < wr.heap.size := by have := hb.size; omega
    by_cases hlt : k < os.length
    · obtain ⟨b, off, x, rfl, hbl, hx, hc⟩ := (HSO.out.ext hb).at_ hlt
      have hwh := HORD.out.whe k x hx
      have hx16 : 0 ≤ x ∧ x < 16 := by
        obtain ⟨j, _, e⟩ := HMD.out.from_ x (HORD.out.rng x (List.mem_of_getElem? hx))
        rw [e]; exact fr_bd j
      have hchd : lruChd xs ys rs x = 0 := chd_of HCK.out hx16.1 (by omega)
      have hno := nodup_take HORD.out.nodup hx
      have HX := Lib.hid hx; have HCD := Lib.hid hchd; have HNO := Lib.hid hno
      have i1 : (k : Int) < os.length := by omega
      have i2 : (k : Int) ≤ d := by omega
      have hd0 : ¬ d = 0 := by omega
      clear hx hchd hno hx16
      rcases (by by_cases h : k < ys.length; exact .inl ⟨h, by rw [if_pos h] at hwh; exact hwh⟩; exact .inr ⟨h, by rw [if_neg h] at hwh; exact hwh⟩ : (k < ys.length ∧ fWhere xs ys x = 2) ∨ (¬ k < ys.length ∧ fWhere xs ys x = 1)) with ⟨hky, hfw⟩ | ⟨hky, hfw⟩
      · have HFW := Lib.hid hfw
        have hdk : decide ((k : Int) < ys.length) = true := by simp; omega
        clear hwh hfw
        go_wp2_with fail
        go_region_held3 (fun W => W.cell? ⟨w1.heap.size, 0, none⟩ = some (.slice A1 xs.length c1) ∧ W.cell? ⟨w1.heap.size, 1, none⟩ = some (.slice A2 ys.length c2) ∧ W.cell? ⟨w1.heap.size, 2, none⟩ = some (.slice A3 rs.length c3) ∧ W.cell? ⟨b, off + k, none⟩ = some (.int .i64 x))
          (refine ⟨?_, ?_, ?_, ?_⟩ <;> (refine cell_keep (B := wr.heap.size) (a := wr) (by repeat' (first | with_reducible exact Below.refl _ _ | with_reducible assumption | with_reducible apply Below.drew | with_reducible apply below_drewN | with_reducible apply Below.alloc | with_reducible apply Below.setCell | (with_reducible refine Below.trans ?_ (Below.mono (by assumption) ?_)) | (simp; done) | (simp; omega) | omega | with_reducible apply le_size_alloc | with_reducible apply le_size_drewN | with_reducible apply le_size_drew | with_reducible apply le_size_setCell | refine Nat.le_trans ?_ (Below.size (by assumption)))) (by assumption) (by simp; omega)))
          (first | (go_at_call 24; (with_reducible refine (Where_any _ _ _ _ _ _ _ _ _ _ _ ?_).mono ?_); (exact M2.out.ext (by repeat' (first | with_reducible exact Below.refl _ _ | with_reducible assumption | with_reducible apply Below.drew | with_reducible apply below_drewN | with_reducible apply Below.alloc | with_reducible apply Below.setCell | (with_reducible refine Below.trans ?_ (Below.mono (by assumption) ?_)) | (simp; done) | (simp; omega) | omega | with_reducible apply le_size_alloc | with_reducible apply le_size_drewN | with_reducible apply le_size_drew | with_reducible apply le_size_setCell | refine Nat.le_trans ?_ (Below.size (by assumption))))); rw [whereR, HCD.out, if_neg (by simp), HFW.out]; rintro e w4 ⟨rfl, h4⟩))
        have r1 : w4.cell? ⟨w1.heap.size, 1, none⟩ = some (.slice A2 ys.length c2) := cell_keep (B := wr.heap.size) (a := wr) (by repeat' (first | with_reducible exact Below.refl _ _ | with_reducible assumption | with_reducible apply Below.drew | with_reducible apply below_drewN | with_reducible apply Below.alloc | with_reducible apply Below.setCell | (with_reducible refine Below.trans ?_ (Below.mono (by assumption) ?_)) | (simp; done) | (simp; omega) | omega | with_reducible apply le_size_alloc | with_reducible apply le_size_drewN | with_reducible apply le_size_drew | with_reducible apply le_size_setCell | refine Nat.le_trans ?_ (Below.size (by assumption)))) q1 zr
        have r2 : w4.cell? ⟨b, off + k, none⟩ = some (.int .i64 x) := cell_keep (B := wr.heap.size) (a := wr) (by repeat' (first | with_reducible exact Below.refl _ _ | with_reducible assumption | with_reducible apply Below.drew | with_reducible apply below_drewN | with_reducible apply Below.alloc | with_reducible apply Below.setCell | (with_reducible refine Below.trans ?_ (Below.mono (by assumption) ?_)) | (simp; done) | (simp; omega) | omega | with_reducible apply le_size_alloc | with_reducible apply le_size_drewN | with_reducible apply le_size_drew | with_reducible apply le_size_setCell | refine Nat.le_trans ?_ (Below.size (by assumption)))) hc hbl
        have hb4 : Below w2.heap.size w2 w4 := (by repeat' (first | with_reducible exact Below.refl _ _ | with_reducible assumption | with_reducible apply Below.drew | with_reducible apply below_drewN | with_reducible apply Below.alloc | with_reducible apply Below.setCell | (with_reducible refine Below.trans ?_ (Below.mono (by assumption) ?_)) | (simp; done) | (simp; omega) | omega | with_reducible apply le_size_alloc | with_reducible apply le_size_drewN | with_reducible apply le_size_drew | with_reducible apply le_size_setCell | refine Nat.le_trans ?_ (Below.size (by assumption))))
        have hst := (HSO.out.ext hb4).take_ k
        have HST := Lib.hid hst
        clear hst q0 q1 q2 hc
        go_wp2_with fail
        go_quiet ((go_at_call 36; exact quiet_l (Has_take _ _ os _ _ _ HST.out (by omega) (by omega) HNO.out)))
        go_wp2
        go_roundw
        case rel => exact ⟨k + 1, by omega, by go_num, (by repeat' (first | with_reducible exact Below.refl _ _ | with_reducible assumption | with_reducible apply Below.drew | with_reducible apply below_drewN | with_reducible apply Below.alloc | with_reducible apply Below.setCell | (with_reducible refine Below.trans ?_ (Below.mono (by assumption) ?_)) | (simp; done) | (simp; omega) | omega | with_reducible apply le_size_alloc | with_reducible apply le_size_drewN | with_reducible apply le_size_drew | with_reducible apply le_size_setCell | refine Nat.le_trans ?_ (Below.size (by assumption))))⟩
        case measure => simp [intOf]; omega
      · have HFW := Lib.hid hfw
        have hdk : decide ((k : Int) < ys.length) = false := by simp; omega
        clear hwh hfw
        go_wp2_with fail
        go_region_held3 (fun W => W.cell? ⟨w1.heap.size, 0, none⟩ = some (.slice A1 xs.length c1) ∧ W.cell? ⟨w1.heap.size, 1, none⟩ = some (.slice A2 ys.length c2) ∧ W.cell? ⟨w1.heap.size, 2, none⟩ = some (.slice A3 rs.length c3) ∧ W.cell? ⟨b, off + k, none⟩ = some (.int .i64 x))
          (refine ⟨?_, ?_, ?_, ?_⟩ <;> (refine cell_keep (B := wr.heap.size) (a := wr) (by repeat' (first | with_reducible exact Below.refl _ _ | with_reducible assumption | with_reducible apply Below.drew | with_reducible apply below_drewN | with_reducible apply Below.alloc | with_reducible apply Below.setCell | (with_reducible refine Below.trans ?_ (Below.mono (by assumption) ?_)) | (simp; done) | (simp; omega) | omega | with_reducible apply le_size_alloc | with_reducible apply le_size_drewN | with_reducible apply le_size_drew | with_reducible apply le_size_setCell | refine Nat.le_trans ?_ (Below.size (by assumption)))) (by assumption) (by simp; omega)))
          (first | (go_at_call 24; (with_reducible refine (Where_any _ _ _ _ _ _ _ _ _ _ _ ?_).mono ?_); (exact M2.out.ext (by repeat' (first | with_reducible exact Below.refl _ _ | with_reducible assumption | with_reducible apply Below.drew | with_reducible apply below_drewN | with_reducible apply Below.alloc | with_reducible apply Below.setCell | (with_reducible refine Below.trans ?_ (Below.mono (by assumption) ?_)) | (simp; done) | (simp; omega) | omega | with_reducible apply le_size_alloc | with_reducible apply le_size_drewN | with_reducible apply le_size_drew | with_reducible apply le_size_setCell | refine Nat.le_trans ?_ (Below.size (by assumption))))); rw [whereR, HCD.out, if_neg (by simp), HFW.out]; rintro e w4 ⟨rfl, h4⟩))
        have r1 : w4.cell? ⟨w1.heap.size, 1, none⟩ = some (.slice A2 ys.length c2) := cell_keep (B := wr.heap.size) (a := wr) (by repeat' (first | with_reducible exact Below.refl _ _ | with_reducible assumption | with_reducible apply Below.drew | with_reducible apply below_drewN | with_reducible apply Below.alloc | with_reducible apply Below.setCell | (with_reducible refine Below.trans ?_ (Below.mono (by assumption) ?_)) | (simp; done) | (simp; omega) | omega | with_reducible apply le_size_alloc | with_reducible apply le_size_drewN | with_reducible apply le_size_drew | with_reducible apply le_size_setCell | refine Nat.le_trans ?_ (Below.size (by assumption)))) q1 zr
        have r2 : w4.cell? ⟨b, off + k, none⟩ = some (.int .i64 x) := cell_keep (B := wr.heap.size) (a := wr) (by repeat' (first | with_reducible exact Below.refl _ _ | with_reducible assumption | with_reducible apply Below.drew | with_reducible apply below_drewN | with_reducible apply Below.alloc | with_reducible apply Below.setCell | (with_reducible refine Below.trans ?_ (Below.mono (by assumption) ?_)) | (simp; done) | (simp; omega) | omega | with_reducible apply le_size_alloc | with_reducible apply le_size_drewN | with_reducible apply le_size_drew | with_reducible apply le_size_setCell | refine Nat.le_trans ?_ (Below.size (by assumption)))) hc hbl
        have hb4 : Below w2.heap.size w2 w4 := (by repeat' (first | with_reducible exact Below.refl _ _ | with_reducible assumption | with_reducible apply Below.drew | with_reducible apply below_drewN | with_reducible apply Below.alloc | with_reducible apply Below.setCell | (with_reducible refine Below.trans ?_ (Below.mono (by assumption) ?_)) | (simp; done) | (simp; omega) | omega | with_reducible apply le_size_alloc | with_reducible apply le_size_drewN | with_reducible apply le_size_drew | with_reducible apply le_size_setCell | refine Nat.le_trans ?_ (Below.size (by assumption))))
        have hst := (HSO.out.ext hb4).take_ k
        have HST := Lib.hid hst
        clear hst q0 q1 q2 hc
        go_wp2_with fail
        go_quiet ((go_at_call 36; exact quiet_l (Has_take _ _ os _ _ _ HST.out (by omega) (by omega) HNO.out)))
        go_wp2
        go_roundw
        case rel => exact ⟨k + 1, by omega, by go_num, (by repeat' (first | with_reducible exact Below.refl _ _ | with_reducible assumption | with_reducible apply Below.drew | with_reducible apply below_drewN | with_reducible apply Below.alloc | with_reducible apply Below.setCell | (with_reducible refine Below.trans ?_ (Below.mono (by assumption) ?_)) | (simp; done) | (simp; omega) | omega | with_reducible apply le_size_alloc | with_reducible apply le_size_drewN | with_reducible apply le_size_drew | with_reducible apply le_size_setCell | refine Nat.le_trans ?_ (Below.size (by assumption))))⟩
        case measure => simp [intOf]; omega
    · have hnl : os.length ≤ k := by omega
      go_wp2_with fail
      refine (Last_ok _ _ _ _ _ _ _ _ _ _ (M2.out.ext (by repeat' (first | with_reducible exact Below.refl _ _ | with_reducible assumption | with_reducible apply Below.drew | with_reducible apply below_drewN | with_reducible apply Below.alloc | with_reducible apply Below.setCell | (with_reducible refine Below.trans ?_ (Below.mono (by assumption) ?_)) | (simp; done) | (simp; omega) | omega | with_reducible apply le_size_alloc | with_reducible apply le_size_drewN | with_reducible apply le_size_drew | with_reducible apply le_size_setCell | refine Nat.le_trans ?_ (Below.size (by assumption))))) HCK.out).mono ?_
      rw [← HOS.out]
      rintro e w4 ⟨rfl, h4⟩
      have hb4 : Below w2.heap.size w2 w4 := (by repeat' (first | with_reducible exact Below.refl _ _ | with_reducible assumption | with_reducible apply Below.drew | with_reducible apply below_drewN | with_reducible apply Below.alloc | with_reducible apply Below.setCell | (with_reducible refine Below.trans ?_ (Below.mono (by assumption) ?_)) | (simp; done) | (simp; omega) | omega | with_reducible apply le_size_alloc | with_reducible apply le_size_drewN | with_reducible apply le_size_drew | with_reducible apply le_size_setCell | refine Nat.le_trans ?_ (Below.size (by assumption))))
      cases os with
      | nil =>
        have t0 : ((0 : Int) == 0) = true := rfl
        simp only [lastR]
        go_wp2_with (go_at_call 11; refine (awake_any _).mono ?_; rintro e w5 ⟨rfl, h5⟩)
        go_ret
        exact ⟨by first | rfl | simp, (by repeat' (first | with_reducible exact Below.refl _ _ | with_reducible assumption | with_reducible apply Below.drew | with_reducible apply below_drewN | with_reducible apply Below.alloc | with_reducible apply Below.setCell | (with_reducible refine Below.trans ?_ (Below.mono (by assumption) ?_)) | (simp; done) | (simp; omega) | omega | with_reducible apply le_size_alloc | with_reducible apply le_size_drewN | with_reducible apply le_size_drew | with_reducible apply le_size_setCell | refine Nat.le_trans ?_ (Below.size (by assumption))))⟩
      | cons x t =>
        obtain ⟨b, off, y, hB, hbl, hx, hc⟩ := (HSO.out.ext hb4).at_ (k := 0) (by simp)
        simp at hx
        subst hx hB
        rw [Nat.add_zero] at hc
        have hp : (0 : Int) < (t.length : Int) + 1 := by omega
        have t1 : ((t.length : Int) + 1 == 0) = false := by first | (simp; done) | (simp; omega)
        have t2 : decide ((0 : Int) < (t.length : Int) + 1) = true := by first | (simp; done) | (simp; omega)
        have t3 : (x == x) = true := by simp
        simp only [lastR]
        go_wp2_with (go_at_call 11; refine (awake_any _).mono ?_; rintro e w5 ⟨rfl, h5⟩)
        go_ret
        exact ⟨by first | rfl | simp, (by repeat' (first | with_reducible exact Below.refl _ _ | with_reducible assumption | with_reducible apply Below.drew | with_reducible apply below_drewN | with_reducible apply Below.alloc | with_reducible apply Below.setCell | (with_reducible refine Below.trans ?_ (Below.mono (by assumption) ?_)) | (simp; done) | (simp; omega) | omega | with_reducible apply le_size_alloc | with_reducible apply le_size_drewN | with_reducible apply le_size_drew | with_reducible apply le_size_setCell | refine Nat.le_trans ?_ (Below.size (by assumption))))⟩

set_option maxRecDepth 100000 in
theorem lruOrder_lifted (os : Os) (started : os.Started) (H : Type) (enc : TypeId × Value → H) :
    ReturnsInHanded {} Try.checked os 6 .any (Rows.lruOrderSpec.pre6 enc Try.prog Try.f6 Rows.lruOrderRow.domain false) (Rows.lruOrderSpec.post enc Try.prog Try.f6 false true false false) := by
  refine returnsInHanded_of_change (C := Try.checked) own started (by kernel_rfl) Try.func6
    (ChangeSpec.witness6 (enc := enc) (C := Try.checked) false ⟨#[], #[.slice none 0 0], []⟩ 8 (by kernel_rfl) (by kernel_rfl) (by kernel_rfl) (by kernel_rfl)) ?_
  intro W base args ds gs before hval0 hW hcnd _
  have hval : ∀ (j : Nat) t v, Try.f6.params[j]? = some t → args[j]? = some v → Value.okWide Try.prog W .any base t v := hval0
  have hW' := hW
  obtain ⟨p, q, hA0, hV, rfl, hfz, hnd⟩ := hW
  have hA : DataW.TrodAll enc Try.prog W 0 (fun _ => true) true Try.f6.params.toList args.toList ds p := hA0
  rw [Try.params6] at hA hval
  obtain ⟨v0, vs0, d0, ds0, p0, q0, hargs, rfl, rfl, h0, r0⟩ := trodAll_cons hA
  obtain ⟨rfl, rfl, rfl⟩ := trodAll_nil r0
  obtain rfl : args = #[v0] := by cases args; simp_all
  obtain ⟨rfl, rfl⟩ := trodVars_none hV
  obtain ⟨A0, k0, a0, rfl, s0, w0, l0⟩ := open_slI Try.underlying22 Try.underlying3 (by kernel_rfl) (hval 0 22 v0 rfl rfl) h0
  clear hA0 hval0
  refine (lruOrder_walk A0 k0 a0 W s0 w0 l0).mono fun e W' ⟨he, hb⟩ => ⟨_, he, ?_⟩
  exact law_post laidOut (s := Rows.lruOrderSpec) (B := 4) rfl rfl Try.underlying4 (by decide +kernel) hW' rfl hb

theorem lruOrder_holds : Rows.LruOrderSaid :=
  OpenClaim.holds_of_wide 6 Try.f6 rfl rfl rfl rfl rfl rfl rfl ⟨rfl, rfl, rfl, rfl, rfl⟩ rfl rfl rfl rfl rfl (by kernel_rfl) Try.func6 (by kernel_rfl)
    (of_decide_eq_true (by kernel_rfl)) (by unfold Func.isWrapper; first | (rw [if_pos (by decide +kernel)]; kernel_rfl) | (rw [if_neg (by decide +kernel)]; exact ⟨rfl, rfl⟩))
    (fun os started H enc _ => lruOrder_lifted os started H enc)

end Go.Proofs.Ytjilfijpepbfeaa
