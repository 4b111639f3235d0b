/- headgateref25: before, at, count, Check; rmap.Exit whole. Written by gen_rr1.py. -/
import Derived.Test.YtbeddhamnefpiaaRmY
namespace Go.Proofs.Ytbeddhamnefpiaa
set_option linter.unusedSimpArgs false
set_option linter.unusedVariables false
open Go.RowKit Go.Maps

set_option maxRecDepth 100000 in
set_option maxHeartbeats 1000000 in
theorem Exit_any (A : Option Addr) (c : Nat) (l : List M3) (n : Int) (w : World) (ha : SR mapE w A l) (la : l.length ≤ 1000) :
    Calls Try.prog 23 #[.slice A l.length c, .int .i64 n] w (ExtPost (extM l n) w) := by
  obtain ⟨b, d1⟩ : ∃ b, okN n = b := ⟨_, rfl⟩
  have d1' : decide (1 ≤ n ∧ n ≤ 8) = b := d1
  rcases extM_cases l n with ⟨y, hy, hz, hr⟩ | ⟨hz, ok, hb, hr⟩
  · have HS := Lib.hid ha
    have HR := Lib.hid hr
    have yb : (y != 0) = true := by simpa using hy
    rw [d1] at hz
    have HZ := Lib.hid hz
    clear hz hr ha
    go_enter Try.func23, Try.ntmps23
    go_wp2_with (first | (go_at_call 52; refine (isProc_b _ _ d1' _).mono ?_; rintro e w' ⟨rfl, rfl⟩) | (go_at_call 49; refine (sound_any A c l _ _ HS.out la HZ.out).mono ?_; rintro e w1 ⟨rfl, hb1⟩))
    refine bodyPost_ret (v := .tuple #[.slice none 0 0, .slice none 0 0, .int .i64 y]) (by simp [results, Try.results23, go_sem]) rfl ?_
    unfold ExtPost
    rw [HR.out]
    exact ⟨none, 0, none, 0, rfl, CR.nil, Sl.nil, hb1⟩
  · rw [hb] at d1
    subst d1
    rw [hb] at hz
    exact ((callsIn_wide (n := 9)).1 (Exit_good A c l n w ha la hz ok d1' hr)).mono fun _ _ h => h.post
theorem Exit_new (A : Option Addr) (c : Nat) (l : List M3) (n : Int) (w : World) (ha : SR mapE w A l) (la : l.length ≤ 1000) (ok : OkL l) (d1 : decide (1 ≤ n ∧ n ≤ 8) = true) :
    Calls Try.prog 23 #[.slice A l.length c, .int .i64 n] w (ExtPost2 (keptM l n, freedM l n, 0) w) := by
  have hz : sndM l true = 0 := by unfold sndM; rw [ok.chk]; simp
  have hr : extM l n = (keptM l n, freedM l n, 0) := by unfold extM; rw [ok.chk, if_neg (by simp), if_pos (show okN n = true from d1)]
  have h := (callsIn_wide (n := 9)).1 (Exit_good A c l n w ha la hz ok d1 hr)
  rwa [hr] at h

set_option maxRecDepth 100000 in
set_option maxHeartbeats 1000000 in
theorem before_any (x y : M3) (w : World) {b : Bool} (hb : ltM x y = b) :
    Calls Try.prog 47 #[.agg #[.int .i64 x.1, .int .i64 x.2.1, .int .i64 x.2.2], .agg #[.int .i64 y.1, .int .i64 y.2.1, .int .i64 y.2.2]] w fun e w' => e = .returned (.bool b) ∧ Below w.heap.size w w' := by
  have HB := Lib.hid hb
  clear hb
  obtain ⟨a1, a2, a3⟩ := x
  obtain ⟨b1, b2, b3⟩ := y
  dsimp only at *
  by_cases e1 : a1 = b1
  · subst e1
    by_cases e2 : a2 = b2
    · subst e2
      have HC : Hid (decide (a3 < b3) = b) := by show _ = _; rw [← HB.out]; simp [ltM]
      go_enter Try.func47, Try.ntmps47
      go_wp2
      go_ret
      exact ⟨ret_bool HC.out, (by repeat' (first | with_reducible exact Below.refl _ _ | with_reducible assumption | with_reducible apply Below.drew | with_reducible apply below_drewN | with_reducible apply Below.alloc | with_reducible apply Below.setCell | (with_reducible refine Below.trans ?_ (Below.mono (by assumption) ?_)) | (simp; done) | (simp; omega) | omega | with_reducible apply le_size_alloc | with_reducible apply le_size_drewN | with_reducible apply le_size_drew | with_reducible apply le_size_setCell | refine Nat.le_trans ?_ (Below.size (by assumption))))⟩
    · have HC : Hid (decide (a2 < b2) = b) := by show _ = _; rw [← HB.out]; simp [ltM, e2]
      have eb : (a2 != b2) = true := by simpa using e2
      clear e2
      go_enter Try.func47, Try.ntmps47
      go_wp2
      go_ret
      exact ⟨ret_bool HC.out, (by repeat' (first | with_reducible exact Below.refl _ _ | with_reducible assumption | with_reducible apply Below.drew | with_reducible apply below_drewN | with_reducible apply Below.alloc | with_reducible apply Below.setCell | (with_reducible refine Below.trans ?_ (Below.mono (by assumption) ?_)) | (simp; done) | (simp; omega) | omega | with_reducible apply le_size_alloc | with_reducible apply le_size_drewN | with_reducible apply le_size_drew | with_reducible apply le_size_setCell | refine Nat.le_trans ?_ (Below.size (by assumption))))⟩
  · have HC : Hid (decide (a1 < b1) = b) := by show _ = _; rw [← HB.out]; simp [ltM, e1]
    have eb : (a1 != b1) = true := by simpa using e1
    clear e1
    go_enter Try.func47, Try.ntmps47
    go_wp2
    go_ret
    exact ⟨ret_bool HC.out, (by repeat' (first | with_reducible exact Below.refl _ _ | with_reducible assumption | with_reducible apply Below.drew | with_reducible apply below_drewN | with_reducible apply Below.alloc | with_reducible apply Below.setCell | (with_reducible refine Below.trans ?_ (Below.mono (by assumption) ?_)) | (simp; done) | (simp; omega) | omega | with_reducible apply le_size_alloc | with_reducible apply le_size_drewN | with_reducible apply le_size_drew | with_reducible apply le_size_setCell | refine Nat.le_trans ?_ (Below.size (by assumption))))⟩

/-- The number of a place in a list, or -1. -/
def idxM (l : List M3) (p : Int × Int) : Int := match l.findIdx? (fun m => decide (m.2 = p)) with | none => -1 | some i => (i : Nat)
theorem idxM_none {l : List M3} {p : Int × Int} (h : ∀ m ∈ l, m.2 ≠ p) : idxM l p = -1 := by
  unfold idxM
  rw [List.findIdx?_eq_none_iff.2 (fun m hm => by simpa using h m hm)]
theorem idxM_at {l : List M3} {p : Int × Int} {k : Nat} {x : M3} (hx : l[k]? = some x) (h : ∀ m ∈ l.take k, m.2 ≠ p) (e : x.2 = p) : idxM l p = k := by
  obtain ⟨hk, rfl⟩ := List.getElem?_eq_some_iff.1 hx
  unfold idxM
  have : l.findIdx? (fun m => decide (m.2 = p)) = some k := by
    rw [List.findIdx?_eq_some_iff_getElem]
    refine ⟨hk, by simpa using e, fun j hj => ?_⟩
    have := h l[j] (List.mem_take_iff_getElem.2 ⟨j, by omega, rfl⟩)
    simpa using this
  rw [this]
theorem idxM_cases (l : List M3) (p : Int × Int) : ((∀ m ∈ l, m.2 ≠ p) ∧ findM l p = none ∧ idxM l p = -1) ∨ ∃ (k : Nat) (x : M3), l[k]? = some x ∧ x.2 = p ∧ findM l p = some x.1 ∧ idxM l p = k ∧ ∀ m ∈ l.take k, m.2 ≠ p := by
  cases h : l.findIdx? (fun m => decide (m.2 = p)) with
  | none =>
    have h1 : ∀ m ∈ l, m.2 ≠ p := fun m hm => by simpa using List.findIdx?_eq_none_iff.1 h m hm
    exact .inl ⟨h1, findM_none h1, idxM_none h1⟩
  | some k =>
    obtain ⟨hk, h1, h2⟩ := List.findIdx?_eq_some_iff_getElem.1 h
    have h3 : ∀ m ∈ l.take k, m.2 ≠ p := fun m hm => by
      obtain ⟨j, hj, rfl⟩ := List.mem_take_iff_getElem.1 hm
      simpa using h2 j (by omega)
    have hx : l[k]? = some l[k] := List.getElem?_eq_getElem hk
    have e : l[k].2 = p := by simpa using h1
    exact .inr ⟨k, l[k], hx, e, findM_at hx h3 e, idxM_at hx h3 e, h3⟩
theorem hasP_idx (l : List M3) (p : Int × Int) : decide (idxM l p ≥ 0) = hasP l p := by
  rcases idxM_cases l p with ⟨h, _, e⟩ | ⟨k, x, hx, e1, _, e2, _⟩
  · rw [e]
    cases hh : hasP l p with
    | false => rfl
    | true =>
      obtain ⟨y, hy, e3⟩ := hasP_iff.1 hh
      exact absurd e3 (h y hy)
  · rw [e2, hasP_iff.2 ⟨x, List.mem_of_getElem? hx, e1⟩]
    simp

set_option maxRecDepth 100000 in
set_option maxHeartbeats 2000000 in
theorem at_any (A : Option Addr) (c : Nat) (l : List M3) (p q : Int) (w : World) (ha : SR mapE w A l) (la : l.length ≤ 1000) {z : Int} (hz : idxM l (p, q) = z) :
    Calls Try.prog 48 #[.slice A l.length c, .agg #[.int .i64 p, .int .i64 q]] w fun e w' => e = .returned (.int .i64 z) ∧ Below w.heap.size w w' := by
  have HA := Lib.hid ha; have HO := Lib.hid hz
  clear ha hz
  go_enter Try.func48, Try.ntmps48
  go_wp2
  obtain ⟨V, hV⟩ : ∃ V, w.alloc (.cells #[.int .i64 p, .int .i64 q] 24) = V := ⟨_, rfl⟩
  have BV : Below w.heap.size w V := by rw [← hV]; exact (by repeat' (first | with_reducible exact Below.refl _ _ | with_reducible assumption | with_reducible apply Below.drew | with_reducible apply below_drewN | with_reducible apply Below.alloc | with_reducible apply Below.setCell | (with_reducible refine Below.trans ?_ (Below.mono (by assumption) ?_)) | (simp; done) | (simp; omega) | omega | with_reducible apply le_size_alloc | with_reducible apply le_size_drewN | with_reducible apply le_size_drew | with_reducible apply le_size_setCell | refine Nat.le_trans ?_ (Below.size (by assumption))))
  have kV : Blk V w.heap.size 24 #[.int .i64 p, .int .i64 q] := by rw [← hV]; exact (by repeat' (first | with_reducible assumption | (with_reducible refine Blk.new_ ?_ ?_ <;> first | (simp; done) | rfl) | with_reducible apply Blk.drew_ | with_reducible apply Blk.drewN_ | with_reducible apply Blk.alloc_ | with_reducible refine Blk.far_ ?_ ?_ _ | (with_reducible refine Blk.below_ ?_ (by assumption) ?_) | (simp; done) | (simp; omega) | omega | with_reducible apply le_size_alloc | with_reducible apply lt_size_alloc | with_reducible apply le_size_drewN | with_reducible apply le_size_drew | with_reducible apply le_size_setCell | refine Nat.lt_of_lt_of_le ?_ (Below.size (by assumption)) | refine Nat.le_trans ?_ (Below.size (by assumption))))
  rw [hV]
  clear hV
  have hsz := BV.size
  have hlV := kV.lt
  go_loopw [5] (fun i wr => ∃ k : Nat, k ≤ l.length ∧ i = .int .i64 k ∧ Hid (∀ m ∈ l.take k, m.2 ≠ (p, q)) ∧ Below V.heap.size V wr) (fun i _ => l.length - (intOf i).toNat)
  case atStart => exact ⟨0, by omega, rfl, by show ∀ m ∈ _, _; simp, Below.refl _ _⟩
  case round =>
    obtain ⟨k, hk, rfl, HR, hbw⟩ := hrel
    have p0 : wr.cell? ⟨w.heap.size, 0, none⟩ = some (.int .i64 p) := by simpa using (kV.below_ hbw hlV).cell_ 0
    have p1 : wr.cell? ⟨w.heap.size, 1, none⟩ = some (.int .i64 q) := by simpa using (kV.below_ hbw hlV).cell_ 1
    have hlw : w.heap.size < wr.heap.size := Nat.lt_of_lt_of_le hlV hbw.size
    by_cases hlt : k < l.length
    · obtain ⟨b, off, x, rfl, hbl, hx, q0, q1, q2⟩ := map_at ((HA.out.ext BV).ext hbw) hlt
      have i1 : (k : Int) < l.length := by omega
      by_cases e : x.2 = (p, q)
      · have HF : Hid (idxM l (p, q) = k) := idxM_at hx HR.out e
        obtain ⟨f, x1⟩ := x
        dsimp only at e
        subst e
        clear hx HR
        go_wp2_with fail
        go_quiet (fail)
        go_wp2_with fail
        go_ret
        exact ⟨ret_int (by rw [← HO.out, HF.out]), (by repeat' (first | with_reducible exact Below.refl _ _ | with_reducible assumption | with_reducible apply Below.drew | with_reducible apply below_drewN | with_reducible apply Below.alloc | with_reducible apply Below.setCell | (with_reducible refine Below.trans ?_ (Below.mono (by assumption) ?_)) | (simp; done) | (simp; omega) | omega | with_reducible apply le_size_alloc | with_reducible apply le_size_drewN | with_reducible apply le_size_drew | with_reducible apply le_size_setCell | refine Nat.le_trans ?_ (Below.size (by assumption))))⟩
      · have HN : Hid (∀ m ∈ l.take (k + 1), m.2 ≠ (p, q)) := ne_snoc hx HR.out e
        have e' := pl_ne e
        clear hx e HR
        rcases e' with e | ⟨e0, e⟩
        · have eb : (x.2.1 == p) = false := by simpa using e
          go_wp2_with fail
          go_quiet (fail)
          go_wp2_with fail
          go_roundw
          case rel => exact ⟨k + 1, by omega, by go_num, HN.out, (by repeat' (first | with_reducible exact Below.refl _ _ | with_reducible assumption | with_reducible apply Below.drew | with_reducible apply below_drewN | with_reducible apply Below.alloc | with_reducible apply Below.setCell | (with_reducible refine Below.trans ?_ (Below.mono (by assumption) ?_)) | (simp; done) | (simp; omega) | omega | with_reducible apply le_size_alloc | with_reducible apply le_size_drewN | with_reducible apply le_size_drew | with_reducible apply le_size_setCell | refine Nat.le_trans ?_ (Below.size (by assumption))))⟩
          case measure => simp [intOf]; omega
        · have eb : (x.2.2 == q) = false := by simpa using e
          rw [e0] at q1
          go_wp2_with fail
          go_quiet (fail)
          go_wp2_with fail
          go_roundw
          case rel => exact ⟨k + 1, by omega, by go_num, HN.out, (by repeat' (first | with_reducible exact Below.refl _ _ | with_reducible assumption | with_reducible apply Below.drew | with_reducible apply below_drewN | with_reducible apply Below.alloc | with_reducible apply Below.setCell | (with_reducible refine Below.trans ?_ (Below.mono (by assumption) ?_)) | (simp; done) | (simp; omega) | omega | with_reducible apply le_size_alloc | with_reducible apply le_size_drewN | with_reducible apply le_size_drew | with_reducible apply le_size_setCell | refine Nat.le_trans ?_ (Below.size (by assumption))))⟩
          case measure => simp [intOf]; omega
    · have hd : l.take k = l := List.take_of_length_le (by omega)
      have h1 := HR.out
      rw [hd] at h1
      have HF : Hid (idxM l (p, q) = -1) := idxM_none h1
      clear hd h1 HR
      go_wp2
      go_ret
      exact ⟨ret_int (by rw [← HO.out, HF.out]), (by repeat' (first | with_reducible exact Below.refl _ _ | with_reducible assumption | with_reducible apply Below.drew | with_reducible apply below_drewN | with_reducible apply Below.alloc | with_reducible apply Below.setCell | (with_reducible refine Below.trans ?_ (Below.mono (by assumption) ?_)) | (simp; done) | (simp; omega) | omega | with_reducible apply le_size_alloc | with_reducible apply le_size_drewN | with_reducible apply le_size_drew | with_reducible apply le_size_setCell | refine Nat.le_trans ?_ (Below.size (by assumption))))⟩

set_option maxRecDepth 100000 in
set_option maxHeartbeats 2000000 in
theorem rcount_any (A : Option Addr) (c : Nat) (l : List M3) (f : Int) (w : World) (ha : SR mapE w A l) (la : l.length ≤ 5000) {n : Int} (hn : cntM l f = n) :
    Calls Try.prog 51 #[.slice A l.length c, .int .i64 f] w fun e w' => e = .returned (.int .i64 n) ∧ Below w.heap.size w w' := by
  have HA := Lib.hid ha
  have HNN := Lib.hid hn
  clear ha hn
  go_enter Try.func51, Try.ntmps51
  go_wp2
  go_loopw [5, 6] (fun n i wr => ∃ (k : Nat) (z : Int), k ≤ l.length ∧ i = .int .i64 k ∧ n = .int .i64 z ∧ Hid (cntM (l.take k) f = z) ∧ 0 ≤ z ∧ z ≤ k ∧ Below w.heap.size w wr) (fun _ i _ => l.length - (intOf i).toNat)
  case atStart => exact ⟨0, 0, by omega, rfl, rfl, by show _ = _; simp [cntM], by omega, by omega, Below.refl _ _⟩
  case round =>
    obtain ⟨k, z, hk, rfl, rfl, HR, hz0, hz1, hbw⟩ := hrel
    by_cases hlt : k < l.length
    · obtain ⟨b, off, x, rfl, hbl, hx, q0, q1, q2⟩ := map_at (HA.out.ext hbw) hlt
      have i1 : (k : Int) < l.length := by omega
      have hwr : IntKind.i64.wrap (z + 1) = z + 1 := IntWalk.i64_in _ (by omega)
      have HN : Hid (cntM (l.take (k + 1)) f = z + if x.1 = f then 1 else 0) := by
        show _ = _
        rw [take_snoc hx, cntM_snoc, HR.out]
      clear hx HR
      by_cases e : x.1 = f
      · have HM : Hid (cntM (l.take (k + 1)) f = z + 1) := by show _ = _; rw [HN.out, if_pos e]
        clear HN
        have eb : (x.1 == f) = true := by simpa using e
        clear e
        go_wp2
        go_roundw
        case rel => exact ⟨k + 1, z + 1, by omega, by go_num, by first | rfl | (rw [hwr]), HM.out, by omega, by omega, (by repeat' (first | with_reducible exact Below.refl _ _ | with_reducible assumption | with_reducible apply Below.drew | with_reducible apply below_drewN | with_reducible apply Below.alloc | with_reducible apply Below.setCell | (with_reducible refine Below.trans ?_ (Below.mono (by assumption) ?_)) | (simp; done) | (simp; omega) | omega | with_reducible apply le_size_alloc | with_reducible apply le_size_drewN | with_reducible apply le_size_drew | with_reducible apply le_size_setCell | refine Nat.le_trans ?_ (Below.size (by assumption))))⟩
        case measure => simp [intOf]; omega
      · have HM : Hid (cntM (l.take (k + 1)) f = z) := by show _ = _; rw [HN.out, if_neg e]; omega
        clear HN
        have eb : (x.1 == f) = false := by simpa using e
        clear e
        go_wp2
        go_roundw
        case rel => exact ⟨k + 1, z, by omega, by go_num, rfl, HM.out, by omega, by omega, (by repeat' (first | with_reducible exact Below.refl _ _ | with_reducible assumption | with_reducible apply Below.drew | with_reducible apply below_drewN | with_reducible apply Below.alloc | with_reducible apply Below.setCell | (with_reducible refine Below.trans ?_ (Below.mono (by assumption) ?_)) | (simp; done) | (simp; omega) | omega | with_reducible apply le_size_alloc | with_reducible apply le_size_drewN | with_reducible apply le_size_drew | with_reducible apply le_size_setCell | refine Nat.le_trans ?_ (Below.size (by assumption))))⟩
        case measure => simp [intOf]; omega
    · have hd : l.take k = l := List.take_of_length_le (by omega)
      have h1 := HR.out
      rw [hd, HNN.out] at h1
      have HF := Lib.hid h1
      clear hd h1 HR
      go_wp2
      go_ret
      exact ⟨ret_int HF.out.symm, (by repeat' (first | with_reducible exact Below.refl _ _ | with_reducible assumption | with_reducible apply Below.drew | with_reducible apply below_drewN | with_reducible apply Below.alloc | with_reducible apply Below.setCell | (with_reducible refine Below.trans ?_ (Below.mono (by assumption) ?_)) | (simp; done) | (simp; omega) | omega | with_reducible apply le_size_alloc | with_reducible apply le_size_drewN | with_reducible apply le_size_drew | with_reducible apply le_size_setCell | refine Nat.le_trans ?_ (Below.size (by assumption))))⟩

set_option maxRecDepth 100000 in
set_option maxHeartbeats 4000000 in
theorem RCheck_any (A : Option Addr) (c : Nat) (l : List M3) (w : World) (ha : CR mapE w A c l) (la : l.length ≤ 1000) {z : Int} {n : Nat} (h : chkM l = (z, n)) :
    Calls Try.prog 13 #[.slice A l.length c] w fun e w' => e = .returned (.tuple #[.int .i64 z, .int .i64 n]) ∧ Below w.heap.size w w' := by
  have HA := Lib.hid ha.1
  have hcap := ha.2
  have HZ := Lib.hid h
  clear ha h
  go_enter Try.func13, Try.ntmps13
  go_wp2
  go_loopw [4] (fun i wr => ∃ k : Nat, k ≤ l.length ∧ i = .int .i64 k ∧ Hid (chkM l = chkG (l.take k) (l.drop k)) ∧ Below w.heap.size w wr) (fun i _ => l.length - (intOf i).toNat)
  case atStart => exact ⟨0, by omega, rfl, by show _ = _; simp [chkM], Below.refl _ _⟩
  case round =>
    obtain ⟨k, hk, rfl, HR, hbw⟩ := hrel
    by_cases hlt : k < l.length
    · obtain ⟨b, off, x, rfl, hbl, hx, q0, q1, q2⟩ := map_at (HA.out.ext hbw) hlt
      have i1 : (k : Int) < l.length := by omega
      have HR' := HR.out
      rw [chkG_at hx, HZ.out] at HR'
      have HX := Lib.hid hx
      cases d1 : decide (0 ≤ x.1 ∧ x.1 < 256) with
      | false =>
        have hok : okM x = false := by simp [okM, d1]
        rw [hok, if_neg (by simp)] at HR'
        obtain ⟨rfl, rfl⟩ := Prod.mk.inj HR'
        clear HR' HR hx
        go_wp2_with (first | (go_at_call 45; with_reducible refine (frame_b _ _ d1 _).mono ?_; rintro e w' ⟨rfl, rfl⟩))
        refine bodyPost_ret (v := .tuple #[.int .i64 2, .int .i64 n]) (by simp [results, Try.results13, go_sem]) rfl ?_
        exact ⟨rfl, (by repeat' (first | with_reducible exact Below.refl _ _ | with_reducible assumption | with_reducible apply Below.drew | with_reducible apply below_drewN | with_reducible apply Below.alloc | with_reducible apply Below.setCell | (with_reducible refine Below.trans ?_ (Below.mono (by assumption) ?_)) | (simp; done) | (simp; omega) | omega | with_reducible apply le_size_alloc | with_reducible apply le_size_drewN | with_reducible apply le_size_drew | with_reducible apply le_size_setCell | refine Nat.le_trans ?_ (Below.size (by assumption))))⟩
      | true =>
        cases d2 : okP x.2 with
        | false =>
          have hok : okM x = false := by simp [okM, d1, d2]
          rw [hok, if_neg (by simp)] at HR'
          obtain ⟨rfl, rfl⟩ := Prod.mk.inj HR'
          clear HR' HR hx
          go_wp2_with (first | (go_at_call 45; with_reducible refine (frame_b _ _ d1 _).mono ?_; rintro e w' ⟨rfl, rfl⟩) | (go_at_call 46; with_reducible refine (place_b _ _ _ d2 _).mono ?_; rintro e w' ⟨rfl, rfl⟩))
          refine bodyPost_ret (v := .tuple #[.int .i64 2, .int .i64 n]) (by simp [results, Try.results13, go_sem]) rfl ?_
          exact ⟨rfl, (by repeat' (first | with_reducible exact Below.refl _ _ | with_reducible assumption | with_reducible apply Below.drew | with_reducible apply below_drewN | with_reducible apply Below.alloc | with_reducible apply Below.setCell | (with_reducible refine Below.trans ?_ (Below.mono (by assumption) ?_)) | (simp; done) | (simp; omega) | omega | with_reducible apply le_size_alloc | with_reducible apply le_size_drewN | with_reducible apply le_size_drew | with_reducible apply le_size_setCell | refine Nat.le_trans ?_ (Below.size (by assumption))))⟩
        | true =>
          have hok : okM x = true := by simp [okM, d1, d2]
          rw [if_pos hok] at HR'
          have HR2 := Lib.hid HR'
          have hlen : (l.take k).length = k := by simp; omega
          have hix := hasP_idx (l.take k) x.2
          have hpre := run_preR (P := Try.prog) mapE (some ⟨b, off, none⟩) c l.length (k : Int) (by omega) (by omega)
          have k9 : ((k : Int)).toNat = k := by omega
          rw [k9] at hpre
          have hpre2 : ∀ W, (Instr.slice 22 (.slice (some ⟨b, off, none⟩) l.length c) none (some (.int .i64 k)) none).run Try.prog W = .ok (.slice (some ⟨b, off, none⟩) k c) W := hpre
          clear HR' HR hok hpre
          obtain ⟨W2, hW2⟩ : ∃ W2, wr.alloc (.cells #[.int .i64 x.2.1, .int .i64 x.2.2] 24) = W2 := ⟨_, rfl⟩
          have BW2 : Below wr.heap.size wr W2 := by rw [← hW2]; exact (by repeat' (first | with_reducible exact Below.refl _ _ | with_reducible assumption | with_reducible apply Below.drew | with_reducible apply below_drewN | with_reducible apply Below.alloc | with_reducible apply Below.setCell | (with_reducible refine Below.trans ?_ (Below.mono (by assumption) ?_)) | (simp; done) | (simp; omega) | omega | with_reducible apply le_size_alloc | with_reducible apply le_size_drewN | with_reducible apply le_size_drew | with_reducible apply le_size_setCell | refine Nat.le_trans ?_ (Below.size (by assumption))))
          have hb2 : b < W2.heap.size := Nat.lt_of_lt_of_le hbl BW2.size
          by_cases hk0 : 0 < k
          · have g0 : (0 : Int) < k := by omega
            obtain ⟨b', off', y, e', hby, hy, v0, v1, v2⟩ := map_at ((HA.out.ext hbw).ext BW2) (show k - 1 < l.length by omega)
            injection e' with e'
            injection e' with e1 e2 e3
            subst e1 e2
            have HB0 : Hid (befL (l.take k) x = ltM y x) := by
              show _ = _
              have := befL_at (x := x) hy
              rw [show k - 1 + 1 = k by omega] at this
              exact this
            obtain ⟨b0, hb00⟩ : ∃ b0, ltM y x = b0 := ⟨_, rfl⟩
            have HB : Hid (befL (l.take k) x = b0) := by show _ = _; rw [HB0.out, hb00]
            have k1 : ((k : Int) - 1).toNat = k - 1 := by omega
            have k2 : (0 : Int) ≤ (k : Int) - 1 := by omega
            have k5 : (1 : Int) ≤ k := by omega
            have k3 : (k : Int) - 1 < l.length := by omega
            have k4 : IntKind.i64.wrap ((k : Int) - 1) = (k : Int) - 1 := IntWalk.i64_in _ (by omega)
            clear hy hk0 HB0
            go_wp2_with (first | (go_at_call 45; with_reducible refine (frame_b _ _ d1 _).mono ?_; rintro e w' ⟨rfl, rfl⟩) | (go_at_call 46; with_reducible refine (place_b _ _ _ d2 _).mono ?_; rintro e w' ⟨rfl, rfl⟩))
            have q0 := cell_keep BW2 q0 hbl
            have q1 := cell_keep BW2 q1 hbl
            have q2 := cell_keep BW2 q2 hbl
            refine wp_region_chain [.is ?fq0, .is (.bool true), .is ?fq2, .is ?fq3, .is ?fq4, .is (.int .i64 ((k : Int) - 1)), .is ?fq6, .is ?fq7, .is ?fq8, .is ?fq9, .is ?fq10, .is ?fq11, .is (.bool b0), .is ?fq13, .is ?fq14, .is ?fq15] (by kernel_rfl) (by kernel_rfl) (by kernel_rfl) (lasts_is (lasts_is (lasts_is (lasts_is (lasts_is (lasts_is (lasts_is (lasts_is (lasts_is (lasts_is (lasts_is (lasts_is (lasts_is (lasts_is (lasts_is (lasts_is lasts_nil)))))))))))))))) (fun W0 hb0 hz0 => ?_)
            rotate_left 13
            refine chain_is (step_take (by rfl) ?yq0) ?rq0
            case yq0 =>
              intro w hbw hd
              clear hd
              go_simp
              first | done | with_reducible rfl
            (try simp only [Act.put, List.setIfInBounds_toArray, List.set_cons_zero, List.set_cons_succ, List.nil_append, List.cons_append])
            refine chain_is (step_take (by rfl) ?yq1) ?rq1
            case yq1 =>
              intro w hbw hd
              clear hd
              go_simp
              first | done | with_reducible rfl | omega
            (try simp only [Act.put, List.setIfInBounds_toArray, List.set_cons_zero, List.set_cons_succ, List.nil_append, List.cons_append])
            refine chain_is (step_take (by rfl) ?yq2) ?rq2
            case yq2 =>
              intro w hbw hd
              clear hd
              go_simp
              first | done | with_reducible rfl
            (try simp only [Act.put, List.setIfInBounds_toArray, List.set_cons_zero, List.set_cons_succ, List.nil_append, List.cons_append])
            refine chain_is (step_take (by rfl) ?yq3) ?rq3
            case yq3 =>
              intro w hbw hd
              clear hd
              go_simp
              first | done | with_reducible rfl
            (try simp only [Act.put, List.setIfInBounds_toArray, List.set_cons_zero, List.set_cons_succ, List.nil_append, List.cons_append])
            refine chain_is (step_take (by rfl) ?yq4) ?rq4
            case yq4 =>
              intro w hbw hd
              clear hd
              go_simp
              first | done | with_reducible rfl
            (try simp only [Act.put, List.setIfInBounds_toArray, List.set_cons_zero, List.set_cons_succ, List.nil_append, List.cons_append])
            refine chain_is (step_take (by rfl) ?yq5) ?rq5
            case yq5 =>
              intro w hbw hd
              clear hd
              go_simp
              first | done | with_reducible rfl
            (try simp only [Act.put, List.setIfInBounds_toArray, List.set_cons_zero, List.set_cons_succ, List.nil_append, List.cons_append])
            refine chain_is (step_take (by rfl) ?yq6) ?rq6
            case yq6 =>
              intro w hbw hd
              clear hd
              go_simp
              first | done | with_reducible rfl
            (try simp only [Act.put, List.setIfInBounds_toArray, List.set_cons_zero, List.set_cons_succ, List.nil_append, List.cons_append])
            refine chain_is (step_take (by rfl) ?yq7) ?rq7
            case yq7 =>
              intro w hbw hd
              have e0 := cell_keep (hb0.trans (hbw.mono hb0.size)) v0 hb2
              have e1 := cell_keep (hb0.trans (hbw.mono hb0.size)) v1 hb2
              have e2 := cell_keep (hb0.trans (hbw.mono hb0.size)) v2 hb2
              clear hd
              go_simp
              first | done | with_reducible rfl
            (try simp only [Act.put, List.setIfInBounds_toArray, List.set_cons_zero, List.set_cons_succ, List.nil_append, List.cons_append])
            refine chain_is (step_take (by rfl) ?yq8) ?rq8
            case yq8 =>
              intro w hbw hd
              clear hd
              go_simp
              first | done | with_reducible rfl
            (try simp only [Act.put, List.setIfInBounds_toArray, List.set_cons_zero, List.set_cons_succ, List.nil_append, List.cons_append])
            refine chain_is (step_take (by rfl) ?yq9) ?rq9
            case yq9 =>
              intro w hbw hd
              clear hd
              go_simp
              first | done | with_reducible rfl
            (try simp only [Act.put, List.setIfInBounds_toArray, List.set_cons_zero, List.set_cons_succ, List.nil_append, List.cons_append])
            refine chain_is (step_take (by rfl) ?yq10) ?rq10
            case yq10 =>
              intro w hbw hd
              clear hd
              go_simp
              first | done | with_reducible rfl
            (try simp only [Act.put, List.setIfInBounds_toArray, List.set_cons_zero, List.set_cons_succ, List.nil_append, List.cons_append])
            refine chain_is (step_take (by rfl) ?yq11) ?rq11
            case yq11 =>
              intro w hbw hd
              have e0 := cell_keep (hb0.trans (hbw.mono hb0.size)) q0 hb2
              have e1 := cell_keep (hb0.trans (hbw.mono hb0.size)) q1 hb2
              have e2 := cell_keep (hb0.trans (hbw.mono hb0.size)) q2 hb2
              clear hd
              go_simp
              first | done | with_reducible rfl
            (try simp only [Act.put, List.setIfInBounds_toArray, List.set_cons_zero, List.set_cons_succ, List.nil_append, List.cons_append])
            refine chain_is ?sq12 ?rq12
            case sq12 =>
              intro w hbw hd K Q' hK
              clear hd
              go_simp
              refine (before_any y x _ hb00).mono ?_
              rintro e x1 ⟨rfl, hx1⟩
              go_wp2_with fail
              refine hK.out (.bool b0) _ _ ?_ ?_ rfl
              · (simp only [Act.put, List.setIfInBounds_toArray, List.set_cons_zero, List.set_cons_succ, List.nil_append, List.cons_append])
              · exact (by repeat' (first | with_reducible exact Below.refl _ _ | with_reducible assumption | with_reducible apply Below.drew | with_reducible apply below_drewN | with_reducible apply Below.alloc | with_reducible apply Below.setCell | (with_reducible refine Below.trans ?_ (Below.mono (by assumption) ?_)) | (simp; done) | (simp; omega) | omega | with_reducible apply le_size_alloc | with_reducible apply le_size_drewN | with_reducible apply le_size_drew | with_reducible apply le_size_setCell | with_reducible refine Nat.le_trans ?_ (Below.size (by assumption))))
            (try simp only [Act.put, List.setIfInBounds_toArray, List.set_cons_zero, List.set_cons_succ, List.nil_append, List.cons_append])
            refine chain_is (step_take (by rfl) ?yq13) ?rq13
            case yq13 =>
              intro w hbw hd
              clear hd
              go_simp
              first | done | with_reducible rfl
            (try simp only [Act.put, List.setIfInBounds_toArray, List.set_cons_zero, List.set_cons_succ, List.nil_append, List.cons_append])
            refine chain_is (step_take (by rfl) ?yq14) ?rq14
            case yq14 =>
              intro w hbw hd
              clear hd
              go_simp
              first | done | with_reducible rfl
            (try simp only [Act.put, List.setIfInBounds_toArray, List.set_cons_zero, List.set_cons_succ, List.nil_append, List.cons_append])
            refine chain_is (step_take (by rfl) ?yq15) ?rq15
            case yq15 =>
              intro w hbw hd
              clear hd
              go_simp
              first | done | with_reducible rfl
            (try simp only [Act.put, List.setIfInBounds_toArray, List.set_cons_zero, List.set_cons_succ, List.nil_append, List.cons_append])
            refine chain_end (fun wz hbz hd => ?_)
            cases b0 with
            | false =>
              have hz := HR2.out
              rw [HB.out, if_neg (by simp)] at hz
              obtain ⟨rfl, rfl⟩ := Prod.mk.inj hz
              clear hz HR2
              go_wp2_with fail
              refine bodyPost_ret (v := .tuple #[.int .i64 8, .int .i64 n]) (by simp [results, Try.results13, go_sem]) rfl ?_
              exact ⟨rfl, (hbw.trans (BW2.mono hbw.size)).trans ((hb0.trans (hbz.mono hb0.size)).mono (Nat.le_trans hbw.size BW2.size))⟩
            | true =>
              simp only [Bool.not_true]
              have hbw0 : Below w.heap.size w wz := (hbw.trans (BW2.mono hbw.size)).trans ((hb0.trans (hbz.mono hb0.size)).mono (Nat.le_trans hbw.size BW2.size))
              have q0 := cell_keep (hb0.trans (hbz.mono hb0.size)) q0 hb2
              have q1 := cell_keep (hb0.trans (hbz.mono hb0.size)) q1 hb2
              have q2 := cell_keep (hb0.trans (hbz.mono hb0.size)) q2 hb2
              have hb2 : b < wz.heap.size := Nat.lt_of_lt_of_le hb2 (hb0.trans (hbz.mono hb0.size)).size
              have hz2 := HR2.out
              clear HR2
              clear hb0 hz0 hbz hd
              go_wp2_with fail
              refine wp_region_chain [.is ?fs0, .is ?fs1, .is ?fs2, .is ?fs3, .is ?fs4, .is ?fs5, .is ?fs6, .is ?fs7, .is (.int .i64 (idxM (l.take k) x.2)), .is (.bool (hasP (l.take k) x.2)), .is ?fs10] (by kernel_rfl) (by kernel_rfl) (by kernel_rfl) (lasts_is (lasts_is (lasts_is (lasts_is (lasts_is (lasts_is (lasts_is (lasts_is (lasts_is (lasts_is (lasts_is lasts_nil))))))))))) (fun W0 hb0 hz0 => ?_)
              rotate_left 9
              refine chain_is (step_take (by rfl) ?ys0) ?rs0
              case ys0 =>
                intro w hbw hd
                clear hd
                go_simp
                first | done | with_reducible rfl
              (try simp only [Act.put, List.setIfInBounds_toArray, List.set_cons_zero, List.set_cons_succ, List.nil_append, List.cons_append])
              refine chain_is (step_take (by rfl) ?ys1) ?rs1
              case ys1 =>
                intro w hbw hd
                clear hd
                go_simp
                first | done | with_reducible rfl
              (try simp only [Act.put, List.setIfInBounds_toArray, List.set_cons_zero, List.set_cons_succ, List.nil_append, List.cons_append])
              refine chain_is (step_take (by rfl) ?ys2) ?rs2
              case ys2 =>
                intro w hbw hd
                clear hd
                go_simp
                first | done | with_reducible rfl
              (try simp only [Act.put, List.setIfInBounds_toArray, List.set_cons_zero, List.set_cons_succ, List.nil_append, List.cons_append])
              refine chain_is (step_take (by rfl) ?ys3) ?rs3
              case ys3 =>
                intro w hbw hd
                clear hd
                go_simp
                first | done | with_reducible rfl
              (try simp only [Act.put, List.setIfInBounds_toArray, List.set_cons_zero, List.set_cons_succ, List.nil_append, List.cons_append])
              refine chain_is (step_take (by rfl) ?ys4) ?rs4
              case ys4 =>
                intro w hbw hd
                clear hd
                go_simp
                first | done | with_reducible rfl
              (try simp only [Act.put, List.setIfInBounds_toArray, List.set_cons_zero, List.set_cons_succ, List.nil_append, List.cons_append])
              refine chain_is (step_take (by rfl) ?ys5) ?rs5
              case ys5 =>
                intro w hbw hd
                clear hd
                go_simp
                first | done | with_reducible rfl
              (try simp only [Act.put, List.setIfInBounds_toArray, List.set_cons_zero, List.set_cons_succ, List.nil_append, List.cons_append])
              refine chain_is (step_take (by rfl) ?ys6) ?rs6
              case ys6 =>
                intro w hbw hd
                clear hd
                go_simp
                first | done | with_reducible rfl
              (try simp only [Act.put, List.setIfInBounds_toArray, List.set_cons_zero, List.set_cons_succ, List.nil_append, List.cons_append])
              refine chain_is (step_take (by rfl) ?ys7) ?rs7
              case ys7 =>
                intro w hbw hd
                have e0 := cell_keep (hb0.trans (hbw.mono hb0.size)) q0 hb2
                have e1 := cell_keep (hb0.trans (hbw.mono hb0.size)) q1 hb2
                have e2 := cell_keep (hb0.trans (hbw.mono hb0.size)) q2 hb2
                clear hd
                go_simp
                first | done | with_reducible rfl
              (try simp only [Act.put, List.setIfInBounds_toArray, List.set_cons_zero, List.set_cons_succ, List.nil_append, List.cons_append])
              refine chain_is ?ss8 ?rs8
              case ss8 =>
                intro w hbw hd K Q' hK
                have HT := Lib.hid (((HA.out.ext hbw0).ext (hb0.trans (hbw.mono hb0.size))).take k)
                clear hd
                go_simp
                have hat := at_any (some ⟨b, off, none⟩) c (l.take k) x.2.1 x.2.2 w HT.out (by simp; omega) (z := idxM (l.take k) x.2) rfl
                rw [hlen] at hat
                refine hat.mono ?_
                rintro e x1 ⟨rfl, hx1⟩
                go_wp2_with fail
                refine hK.out (.int .i64 (idxM (l.take k) x.2)) _ _ ?_ ?_ rfl
                · (simp only [Act.put, List.setIfInBounds_toArray, List.set_cons_zero, List.set_cons_succ, List.nil_append, List.cons_append])
                · exact (by repeat' (first | with_reducible exact Below.refl _ _ | with_reducible assumption | with_reducible apply Below.drew | with_reducible apply below_drewN | with_reducible apply Below.alloc | with_reducible apply Below.setCell | (with_reducible refine Below.trans ?_ (Below.mono (by assumption) ?_)) | (simp; done) | (simp; omega) | omega | with_reducible apply le_size_alloc | with_reducible apply le_size_drewN | with_reducible apply le_size_drew | with_reducible apply le_size_setCell | with_reducible refine Nat.le_trans ?_ (Below.size (by assumption))))
              (try simp only [Act.put, List.setIfInBounds_toArray, List.set_cons_zero, List.set_cons_succ, List.nil_append, List.cons_append])
              refine chain_is (step_take (by rfl) ?ys9) ?rs9
              case ys9 =>
                intro w hbw hd
                clear hd
                go_simp
                first | done | with_reducible rfl | (rw [hix])
              (try simp only [Act.put, List.setIfInBounds_toArray, List.set_cons_zero, List.set_cons_succ, List.nil_append, List.cons_append])
              refine chain_is (step_take (by rfl) ?ys10) ?rs10
              case ys10 =>
                intro w hbw hd
                clear hd
                go_simp
                first | done | with_reducible rfl
              (try simp only [Act.put, List.setIfInBounds_toArray, List.set_cons_zero, List.set_cons_succ, List.nil_append, List.cons_append])
              refine chain_end (fun wz hbz hd => ?_)
              cases hp : hasP (l.take k) x.2 with
              | true =>
                rw [HB.out, if_pos rfl, hp, if_pos rfl] at hz2
                obtain ⟨rfl, rfl⟩ := Prod.mk.inj hz2
                clear hz2
                go_wp2_with fail
                refine bodyPost_ret (v := .tuple #[.int .i64 7, .int .i64 n]) (by simp [results, Try.results13, go_sem]) rfl ?_
                exact ⟨rfl, hbw0.trans ((hb0.trans (hbz.mono hb0.size)).mono hbw0.size)⟩
              | false =>
                rw [HB.out, if_pos rfl, hp, if_neg (by simp)] at hz2
                have HN : Hid (chkM l = chkG (l.take (k + 1)) (l.drop (k + 1))) := by show _ = _; rw [HZ.out]; exact hz2
                clear hz2
                go_wp2_with fail
                go_roundw
                case rel => exact ⟨k + 1, by omega, by go_num, HN.out, hbw0.trans ((hb0.trans (hbz.mono hb0.size)).mono hbw0.size)⟩
                case measure => simp [intOf]; omega
          · have kz : k = 0 := by omega
            have g0 : ¬ (0 : Int) < k := by omega
            have HB : Hid (befL (l.take k) x = true) := by show _ = _; rw [kz]; exact befL_zero l x
            have KZ := Lib.hid kz
            clear kz hk0
            go_wp2_with (first | (go_at_call 45; with_reducible refine (frame_b _ _ d1 _).mono ?_; rintro e w' ⟨rfl, rfl⟩) | (go_at_call 46; with_reducible refine (place_b _ _ _ d2 _).mono ?_; rintro e w' ⟨rfl, rfl⟩))
            have q0 := cell_keep BW2 q0 hbl
            have q1 := cell_keep BW2 q1 hbl
            have q2 := cell_keep BW2 q2 hbl
            refine wp_region_chain [.is ?fp0, .is (.bool false), .is ?fp2, .is undef, .is undef, .is undef, .is undef, .is undef, .is undef, .is undef, .is undef, .is undef, .is undef, .is undef, .is ?fp14, .is ?fp15] (by kernel_rfl) (by kernel_rfl) (by kernel_rfl) (lasts_is (lasts_is (lasts_is (lasts_is (lasts_is (lasts_is (lasts_is (lasts_is (lasts_is (lasts_is (lasts_is (lasts_is (lasts_is (lasts_is (lasts_is (lasts_is lasts_nil)))))))))))))))) (fun W0 hb0 hz0 => ?_)
            rotate_left 4
            refine chain_is (step_take (by rfl) ?yp0) ?rp0
            case yp0 =>
              intro w hbw hd
              clear hd
              go_simp
              first | done | with_reducible rfl
            (try simp only [Act.put, List.setIfInBounds_toArray, List.set_cons_zero, List.set_cons_succ, List.nil_append, List.cons_append])
            refine chain_is (step_take (by rfl) ?yp1) ?rp1
            case yp1 =>
              intro w hbw hd
              clear hd
              go_simp
              first | done | with_reducible rfl | omega
            (try simp only [Act.put, List.setIfInBounds_toArray, List.set_cons_zero, List.set_cons_succ, List.nil_append, List.cons_append])
            refine chain_is (step_take (by rfl) ?yp2) ?rp2
            case yp2 =>
              intro w hbw hd
              clear hd
              go_simp
              first | done | with_reducible rfl
            (try simp only [Act.put, List.setIfInBounds_toArray, List.set_cons_zero, List.set_cons_succ, List.nil_append, List.cons_append])
            refine chain_is (step_un (by rfl)) ?rp3
            (try simp only [Act.put, List.setIfInBounds_toArray, List.set_cons_zero, List.set_cons_succ, List.nil_append, List.cons_append])
            refine chain_is (step_un (by rfl)) ?rp4
            (try simp only [Act.put, List.setIfInBounds_toArray, List.set_cons_zero, List.set_cons_succ, List.nil_append, List.cons_append])
            refine chain_is (step_un (by rfl)) ?rp5
            (try simp only [Act.put, List.setIfInBounds_toArray, List.set_cons_zero, List.set_cons_succ, List.nil_append, List.cons_append])
            refine chain_is (step_un (by rfl)) ?rp6
            (try simp only [Act.put, List.setIfInBounds_toArray, List.set_cons_zero, List.set_cons_succ, List.nil_append, List.cons_append])
            refine chain_is (step_un (by rfl)) ?rp7
            (try simp only [Act.put, List.setIfInBounds_toArray, List.set_cons_zero, List.set_cons_succ, List.nil_append, List.cons_append])
            refine chain_is (step_un (by rfl)) ?rp8
            (try simp only [Act.put, List.setIfInBounds_toArray, List.set_cons_zero, List.set_cons_succ, List.nil_append, List.cons_append])
            refine chain_is (step_un (by rfl)) ?rp9
            (try simp only [Act.put, List.setIfInBounds_toArray, List.set_cons_zero, List.set_cons_succ, List.nil_append, List.cons_append])
            refine chain_is (step_un (by rfl)) ?rp10
            (try simp only [Act.put, List.setIfInBounds_toArray, List.set_cons_zero, List.set_cons_succ, List.nil_append, List.cons_append])
            refine chain_is (step_un (by rfl)) ?rp11
            (try simp only [Act.put, List.setIfInBounds_toArray, List.set_cons_zero, List.set_cons_succ, List.nil_append, List.cons_append])
            refine chain_is (step_un (by rfl)) ?rp12
            (try simp only [Act.put, List.setIfInBounds_toArray, List.set_cons_zero, List.set_cons_succ, List.nil_append, List.cons_append])
            refine chain_is (step_un (by rfl)) ?rp13
            (try simp only [Act.put, List.setIfInBounds_toArray, List.set_cons_zero, List.set_cons_succ, List.nil_append, List.cons_append])
            refine chain_is (step_take (by rfl) ?yp14) ?rp14
            case yp14 =>
              intro w hbw hd
              clear hd
              go_simp
              first | done | with_reducible rfl
            (try simp only [Act.put, List.setIfInBounds_toArray, List.set_cons_zero, List.set_cons_succ, List.nil_append, List.cons_append])
            refine chain_is (step_take (by rfl) ?yp15) ?rp15
            case yp15 =>
              intro w hbw hd
              clear hd
              go_simp
              first | done | with_reducible rfl
            (try simp only [Act.put, List.setIfInBounds_toArray, List.set_cons_zero, List.set_cons_succ, List.nil_append, List.cons_append])
            refine chain_end (fun wz hbz hd => ?_)
            have hbw0 : Below w.heap.size w wz := (hbw.trans (BW2.mono hbw.size)).trans ((hb0.trans (hbz.mono hb0.size)).mono (Nat.le_trans hbw.size BW2.size))
            have q0 := cell_keep (hb0.trans (hbz.mono hb0.size)) q0 hb2
            have q1 := cell_keep (hb0.trans (hbz.mono hb0.size)) q1 hb2
            have q2 := cell_keep (hb0.trans (hbz.mono hb0.size)) q2 hb2
            have hb2 : b < wz.heap.size := Nat.lt_of_lt_of_le hb2 (hb0.trans (hbz.mono hb0.size)).size
            have hz2 := HR2.out
            clear HR2
            clear hb0 hz0 hbz hd
            go_wp2_with fail
            refine wp_region_chain [.is ?fv0, .is ?fv1, .is ?fv2, .is ?fv3, .is ?fv4, .is ?fv5, .is ?fv6, .is ?fv7, .is (.int .i64 (idxM (l.take k) x.2)), .is (.bool (hasP (l.take k) x.2)), .is ?fv10] (by kernel_rfl) (by kernel_rfl) (by kernel_rfl) (lasts_is (lasts_is (lasts_is (lasts_is (lasts_is (lasts_is (lasts_is (lasts_is (lasts_is (lasts_is (lasts_is lasts_nil))))))))))) (fun W0 hb0 hz0 => ?_)
            rotate_left 9
            refine chain_is (step_take (by rfl) ?yv0) ?rv0
            case yv0 =>
              intro w hbw hd
              clear hd
              go_simp
              first | done | with_reducible rfl
            (try simp only [Act.put, List.setIfInBounds_toArray, List.set_cons_zero, List.set_cons_succ, List.nil_append, List.cons_append])
            refine chain_is (step_take (by rfl) ?yv1) ?rv1
            case yv1 =>
              intro w hbw hd
              clear hd
              go_simp
              first | done | with_reducible rfl
            (try simp only [Act.put, List.setIfInBounds_toArray, List.set_cons_zero, List.set_cons_succ, List.nil_append, List.cons_append])
            refine chain_is (step_take (by rfl) ?yv2) ?rv2
            case yv2 =>
              intro w hbw hd
              clear hd
              go_simp
              first | done | with_reducible rfl
            (try simp only [Act.put, List.setIfInBounds_toArray, List.set_cons_zero, List.set_cons_succ, List.nil_append, List.cons_append])
            refine chain_is (step_take (by rfl) ?yv3) ?rv3
            case yv3 =>
              intro w hbw hd
              clear hd
              go_simp
              first | done | with_reducible rfl
            (try simp only [Act.put, List.setIfInBounds_toArray, List.set_cons_zero, List.set_cons_succ, List.nil_append, List.cons_append])
            refine chain_is (step_take (by rfl) ?yv4) ?rv4
            case yv4 =>
              intro w hbw hd
              clear hd
              go_simp
              first | done | with_reducible rfl
            (try simp only [Act.put, List.setIfInBounds_toArray, List.set_cons_zero, List.set_cons_succ, List.nil_append, List.cons_append])
            refine chain_is (step_take (by rfl) ?yv5) ?rv5
            case yv5 =>
              intro w hbw hd
              clear hd
              go_simp
              first | done | with_reducible rfl
            (try simp only [Act.put, List.setIfInBounds_toArray, List.set_cons_zero, List.set_cons_succ, List.nil_append, List.cons_append])
            refine chain_is (step_take (by rfl) ?yv6) ?rv6
            case yv6 =>
              intro w hbw hd
              clear hd
              go_simp
              first | done | with_reducible rfl
            (try simp only [Act.put, List.setIfInBounds_toArray, List.set_cons_zero, List.set_cons_succ, List.nil_append, List.cons_append])
            refine chain_is (step_take (by rfl) ?yv7) ?rv7
            case yv7 =>
              intro w hbw hd
              have e0 := cell_keep (hb0.trans (hbw.mono hb0.size)) q0 hb2
              have e1 := cell_keep (hb0.trans (hbw.mono hb0.size)) q1 hb2
              have e2 := cell_keep (hb0.trans (hbw.mono hb0.size)) q2 hb2
              clear hd
              go_simp
              first | done | with_reducible rfl
            (try simp only [Act.put, List.setIfInBounds_toArray, List.set_cons_zero, List.set_cons_succ, List.nil_append, List.cons_append])
            refine chain_is ?sv8 ?rv8
            case sv8 =>
              intro w hbw hd K Q' hK
              have HT := Lib.hid (((HA.out.ext hbw0).ext (hb0.trans (hbw.mono hb0.size))).take k)
              clear hd
              go_simp
              have hat := at_any (some ⟨b, off, none⟩) c (l.take k) x.2.1 x.2.2 w HT.out (by simp; omega) (z := idxM (l.take k) x.2) rfl
              rw [hlen] at hat
              refine hat.mono ?_
              rintro e x1 ⟨rfl, hx1⟩
              go_wp2_with fail
              refine hK.out (.int .i64 (idxM (l.take k) x.2)) _ _ ?_ ?_ rfl
              · (simp only [Act.put, List.setIfInBounds_toArray, List.set_cons_zero, List.set_cons_succ, List.nil_append, List.cons_append])
              · exact (by repeat' (first | with_reducible exact Below.refl _ _ | with_reducible assumption | with_reducible apply Below.drew | with_reducible apply below_drewN | with_reducible apply Below.alloc | with_reducible apply Below.setCell | (with_reducible refine Below.trans ?_ (Below.mono (by assumption) ?_)) | (simp; done) | (simp; omega) | omega | with_reducible apply le_size_alloc | with_reducible apply le_size_drewN | with_reducible apply le_size_drew | with_reducible apply le_size_setCell | with_reducible refine Nat.le_trans ?_ (Below.size (by assumption))))
            (try simp only [Act.put, List.setIfInBounds_toArray, List.set_cons_zero, List.set_cons_succ, List.nil_append, List.cons_append])
            refine chain_is (step_take (by rfl) ?yv9) ?rv9
            case yv9 =>
              intro w hbw hd
              clear hd
              go_simp
              first | done | with_reducible rfl | (rw [hix])
            (try simp only [Act.put, List.setIfInBounds_toArray, List.set_cons_zero, List.set_cons_succ, List.nil_append, List.cons_append])
            refine chain_is (step_take (by rfl) ?yv10) ?rv10
            case yv10 =>
              intro w hbw hd
              clear hd
              go_simp
              first | done | with_reducible rfl
            (try simp only [Act.put, List.setIfInBounds_toArray, List.set_cons_zero, List.set_cons_succ, List.nil_append, List.cons_append])
            refine chain_end (fun wz hbz hd => ?_)
            cases hp : hasP (l.take k) x.2 with
            | true =>
              rw [HB.out, if_pos rfl, hp, if_pos rfl] at hz2
              obtain ⟨rfl, rfl⟩ := Prod.mk.inj hz2
              clear hz2
              go_wp2_with fail
              refine bodyPost_ret (v := .tuple #[.int .i64 7, .int .i64 n]) (by simp [results, Try.results13, go_sem]) rfl ?_
              exact ⟨rfl, hbw0.trans ((hb0.trans (hbz.mono hb0.size)).mono hbw0.size)⟩
            | false =>
              rw [HB.out, if_pos rfl, hp, if_neg (by simp)] at hz2
              have HN : Hid (chkM l = chkG (l.take (k + 1)) (l.drop (k + 1))) := by show _ = _; rw [HZ.out]; exact hz2
              clear hz2
              go_wp2_with fail
              go_roundw
              case rel => exact ⟨k + 1, by omega, by go_num, HN.out, hbw0.trans ((hb0.trans (hbz.mono hb0.size)).mono hbw0.size)⟩
              case measure => simp [intOf]; omega
    · have hd : l.drop k = [] := List.drop_eq_nil_of_le (by omega)
      have h1 := HR.out
      rw [hd, HZ.out] at h1
      have h2 : (z, n) = (0, 0) := h1
      obtain ⟨rfl, rfl⟩ := Prod.mk.inj h2
      clear h1 h2 hd HR
      go_wp2
      refine bodyPost_ret (v := .tuple #[.int .i64 0, .int .i64 (0 : Nat)]) (by simp [results, Try.results13, go_sem]) rfl ?_
      exact ⟨rfl, (by repeat' (first | with_reducible exact Below.refl _ _ | with_reducible assumption | with_reducible apply Below.drew | with_reducible apply below_drewN | with_reducible apply Below.alloc | with_reducible apply Below.setCell | (with_reducible refine Below.trans ?_ (Below.mono (by assumption) ?_)) | (simp; done) | (simp; omega) | omega | with_reducible apply le_size_alloc | with_reducible apply le_size_drewN | with_reducible apply le_size_drew | with_reducible apply le_size_setCell | refine Nat.le_trans ?_ (Below.size (by assumption))))⟩
end Go.Proofs.Ytbeddhamnefpiaa
