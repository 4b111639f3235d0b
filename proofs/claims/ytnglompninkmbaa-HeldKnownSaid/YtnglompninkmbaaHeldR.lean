/- Contracts of headgateref19: one, Check, asks, own, find, Add, Find, Remove. -/
import Derived.Test.YtnglompninkmbaaHeldG
namespace Go.Proofs.Ytnglompninkmbaa
open Go.RowKit Go.Maps

theorem okW_iff (x : Wr) : okW x = true ↔ (0 ≤ x.1 ∧ x.1 < 256) ∧ (0 ≤ x.2.1 ∧ x.2.1 < 256) ∧ (0 ≤ x.2.2 ∧ x.2.2 ≤ 8) := by
  unfold okW
  simp only [Bool.and_eq_true, Bool.or_eq_true, decide_eq_true_eq]
  omega
def oneE (b : Bool) : Int := if b then 0 else 2
set_option maxHeartbeats 1000000 in
theorem one_any (s f c : Int) (w : World) {b : Bool} (h : okW (s, f, c) = b) : Calls Try.prog 38 #[.agg #[.int .i64 s, .int .i64 f, .int .i64 c]] w fun e w' => e = .returned (.int .i64 (oneE b)) ∧ Below w.heap.size w w' := by
  have H := Lib.hid h
  clear h
  go_enter Try.func38, Try.ntmps38
  go_wp2
  all_goals
    go_ret
    refine ⟨ret_int ?_, (by repeat' (first | with_reducible exact Below.refl _ _ | with_reducible assumption | with_reducible apply Below.drew | with_reducible apply below_drewN | with_reducible apply Below.alloc | with_reducible apply Below.setCell | (with_reducible refine Below.trans ?_ (Below.mono (by assumption) ?_)) | (simp; done) | (simp; omega) | omega | with_reducible apply le_size_alloc | with_reducible apply le_size_drewN | with_reducible apply le_size_drew | with_reducible apply le_size_setCell | refine Nat.le_trans ?_ (Below.size (by assumption))))⟩
    have h := H.out
    have hi := okW_iff (s, f, c)
    rw [h] at hi
    cases b
    · first | rfl | (exfalso; simp only [Bool.false_eq_true, false_iff] at hi; omega)
    · first | rfl | (exfalso; simp only [true_iff] at hi; omega)

theorem hit_one (pre : List Wr) (y x : Wr) : hit (pre ++ [y]) x = (hit pre x || (decide (y.1 = x.1) || (decide (y.2.1 = x.2.1) || (decide (x.2.2 ≠ 0) && decide (y.2.2 = x.2.2))))) := by simp [hit, List.any_append]
theorem chkG_at {l : List Wr} {k : Nat} {x : Wr} (h : l[k]? = some x) :
    chkG (l.take k) (l.drop k) = if okW x then (if hit (l.take k) x then (7, k) else chkG (l.take (k + 1)) (l.drop (k + 1))) else (2, k) := by
  obtain ⟨hk, rfl⟩ := List.getElem?_eq_some_iff.1 h
  rw [List.drop_eq_getElem_cons hk, chkG, List.take_succ_eq_append_getElem hk]
  have : (l.take k).length = k := by simp; omega
  rw [this]
theorem hit_mono {l : List Wr} {x : Wr} {i j : Nat} (hij : i ≤ j) (h : hit (l.take i) x = true) : hit (l.take j) x = true := by
  unfold hit at h ⊢
  rw [List.any_eq_true] at h ⊢
  obtain ⟨y, hy, h⟩ := h
  exact ⟨y, (List.take_subset_take_left l hij) hy, h⟩

set_option maxRecDepth 100000 in
set_option maxHeartbeats 4000000 in
theorem RCheck_any (A : Option Addr) (c : Nat) (l : List Wr) (w : World) (ha : SW w A l) (la : l.length ≤ 1000) {z : Int} {n : Nat} (h : chkS l = (z, n)) :
    Calls Try.prog 18 #[.slice A l.length c] w fun e w' => e = .returned (.tuple #[.int .i64 z, .int .i64 n]) ∧ Below w.heap.size w w' := by
  have HA := Lib.hid ha
  clear ha
  by_cases h16 : 16 < l.length
  · have hS : chkS l = (5, 0) := by unfold chkS; rw [if_pos h16]
    rw [hS] at h
    obtain ⟨rfl, rfl⟩ := Prod.mk.inj h
    have h16' : (16 : Int) < l.length := by omega
    clear hS h
    go_enter Try.func18, Try.ntmps18
    go_wp2
    refine bodyPost_ret (v := .tuple #[.int .i64 5, .int .i64 (0 : Nat)]) (by simp [results, Try.results18, go_sem]) rfl ?_
    exact ⟨rfl, Below.refl _ _⟩
  · have hS : chkG [] l = (z, n) := by rw [← h]; unfold chkS; rw [if_neg h16]
    have HS := Lib.hid hS
    clear hS h
    have h16' : (l.length : Int) ≤ 16 := by omega
    go_enter Try.func18, Try.ntmps18
    go_wp2
    go_loopw [4] (fun i wr => ∃ k : Nat, k ≤ l.length ∧ i = .int .i64 k ∧ Hid (chkG [] l = chkG (l.take k) (l.drop k)) ∧ Below w.heap.size w wr) (fun i _ => l.length - (intOf i).toNat)
    case atStart => exact ⟨0, by omega, rfl, by show _ = _; simp, Below.refl _ _⟩
    case round =>
      obtain ⟨k, hk, rfl, HR, hbw⟩ := hrel
      by_cases hlt : k < l.length
      · obtain ⟨b, off, x, rfl, hbl, hx, q0, q1, q2⟩ := (HA.out.ext hbw).at_ hlt
        have i1 : (k : Int) < l.length := by omega
        have HR' := HR.out
        rw [chkG_at hx] at HR'
        have HX := Lib.hid hx
        clear hx HR
        cases hok : okW x with
        | false =>
          rw [hok, HS.out, if_neg (by simp)] at HR'
          obtain ⟨rfl, rfl⟩ := Prod.mk.inj HR'
          clear HR'
          go_wp2_with (first | (go_at_call 38; with_reducible refine (one_any _ _ _ _ hok).mono ?_; rintro e w1 ⟨rfl, hb1⟩; simp only [oneE, Bool.false_eq_true, if_false]))
          refine bodyPost_ret (v := .tuple #[.int .i64 2, .int .i64 n]) (by simp [results, Try.results18, go_sem]) rfl ?_
          exact ⟨rfl, (by repeat' (first | with_reducible exact Below.refl _ _ | with_reducible assumption | with_reducible apply Below.drew | with_reducible apply below_drewN | with_reducible apply Below.alloc | with_reducible apply Below.setCell | (with_reducible refine Below.trans ?_ (Below.mono (by assumption) ?_)) | (simp; done) | (simp; omega) | omega | with_reducible apply le_size_alloc | with_reducible apply le_size_drewN | with_reducible apply le_size_drew | with_reducible apply le_size_setCell | refine Nat.le_trans ?_ (Below.size (by assumption))))⟩
        | true =>
          rw [hok, if_pos rfl] at HR'
          have HRR := Lib.hid HR'
          clear HR'
          go_wp2_with (first | (go_at_call 38; with_reducible refine (one_any _ _ _ _ hok).mono ?_; rintro e w1 ⟨rfl, hb1⟩; simp only [oneE, if_true]))
          have hbw1 : Below w.heap.size w w1 := hbw.trans (hb1.mono hbw.size)
          have H1 : Hid (SW w1 (some ⟨b, off, none⟩) l) := HA.out.ext hbw1
          have r0 := cell_keep hb1 q0 hbl
          have r1 := cell_keep hb1 q1 hbl
          have r2 := cell_keep hb1 q2 hbl
          have hbl1 : b < w1.heap.size := Nat.lt_of_lt_of_le hbl hb1.size
          clear q0 q1 q2
          go_loopw [6] (fun i wr => ∃ j : Nat, j ≤ k ∧ i = .int .i64 j ∧ Hid (hit (l.take j) x = false) ∧ Below w1.heap.size w1 wr) (fun i _ => k - (intOf i).toNat)
          case atStart => exact ⟨0, by omega, rfl, by show _ = _; simp [hit], Below.refl _ _⟩
          case round =>
            obtain ⟨j, hj, rfl, HJ, hbj⟩ := hrel
            have s0 := cell_keep hbj r0 hbl1
            have s1 := cell_keep hbj r1 hbl1
            have s2 := cell_keep hbj r2 hbl1
            by_cases hjk : j < k
            · obtain ⟨b', off', y, e', hbl', hy, t0, t1, t2⟩ := (H1.out.ext hbj).at_ (show j < l.length by omega)
              injection e' with e'
              injection e' with e1 e2
              subst e1 e2
              have j1 : (j : Int) < l.length := by omega
              have j2 : (j : Int) < k := by omega
              have HT : Hid (hit (l.take (j + 1)) x = (decide (y.1 = x.1) || (decide (y.2.1 = x.2.1) || (decide (x.2.2 ≠ 0) && decide (y.2.2 = x.2.2))))) := by
                show _ = _
                obtain ⟨hj', rfl⟩ := List.getElem?_eq_some_iff.1 hy
                rw [List.take_succ_eq_append_getElem hj', hit_one, HJ.out]
                simp
              have hret : hit (l.take (j + 1)) x = true → (7 = z ∧ k = n) := fun h => by
                have := HRR.out
                rw [if_pos (hit_mono (by omega) h), HS.out] at this
                obtain ⟨h1, h2⟩ := Prod.mk.inj this
                exact ⟨h1.symm, h2.symm⟩
              clear hy r0 r1 r2 hbl'
              by_cases e1 : y.1 = x.1
              · have e1b : (y.1 == x.1) = true := by simpa using e1
                go_wp2_with fail
                go_quiet (fail)
                go_wp2_with fail
                refine bodyPost_ret (v := .tuple #[.int .i64 7, .int .i64 k]) (by simp [results, Try.results18, go_sem]) rfl ?_
                obtain ⟨rfl, rfl⟩ := hret (by rw [HT.out]; simp [*])
                exact ⟨rfl, hbw1.trans ((show Below w1.heap.size w1 _ from (by repeat' (first | with_reducible exact Below.refl _ _ | with_reducible assumption | with_reducible apply Below.drew | with_reducible apply below_drewN | with_reducible apply Below.alloc | with_reducible apply Below.setCell | (with_reducible refine Below.trans ?_ (Below.mono (by assumption) ?_)) | (simp; done) | (simp; omega) | omega | with_reducible apply le_size_alloc | with_reducible apply le_size_drewN | with_reducible apply le_size_drew | with_reducible apply le_size_setCell | refine Nat.le_trans ?_ (Below.size (by assumption))))).mono hbw1.size)⟩
              · have e1b : (y.1 == x.1) = false := by simpa using e1
                by_cases e2 : y.2.1 = x.2.1
                · have e2b : (y.2.1 == x.2.1) = true := by simpa using e2
                  go_wp2_with fail
                  go_quiet (fail)
                  go_wp2_with fail
                  refine bodyPost_ret (v := .tuple #[.int .i64 7, .int .i64 k]) (by simp [results, Try.results18, go_sem]) rfl ?_
                  obtain ⟨rfl, rfl⟩ := hret (by rw [HT.out]; simp [*])
                  exact ⟨rfl, hbw1.trans ((show Below w1.heap.size w1 _ from (by repeat' (first | with_reducible exact Below.refl _ _ | with_reducible assumption | with_reducible apply Below.drew | with_reducible apply below_drewN | with_reducible apply Below.alloc | with_reducible apply Below.setCell | (with_reducible refine Below.trans ?_ (Below.mono (by assumption) ?_)) | (simp; done) | (simp; omega) | omega | with_reducible apply le_size_alloc | with_reducible apply le_size_drewN | with_reducible apply le_size_drew | with_reducible apply le_size_setCell | refine Nat.le_trans ?_ (Below.size (by assumption))))).mono hbw1.size)⟩
                · have e2b : (y.2.1 == x.2.1) = false := by simpa using e2
                  by_cases e3 : x.2.2 = 0
                  · rw [e3] at s2
                    have E3 := Lib.hid e3
                    clear e3
                    go_wp2_with fail
                    go_quiet (fail)
                    go_wp2_with fail
                    go_roundw
                    case rel => exact ⟨j + 1, by omega, by go_num, by show _ = _; rw [HT.out]; have := E3.out; simp [*], (by repeat' (first | with_reducible exact Below.refl _ _ | with_reducible assumption | with_reducible apply Below.drew | with_reducible apply below_drewN | with_reducible apply Below.alloc | with_reducible apply Below.setCell | (with_reducible refine Below.trans ?_ (Below.mono (by assumption) ?_)) | (simp; done) | (simp; omega) | omega | with_reducible apply le_size_alloc | with_reducible apply le_size_drewN | with_reducible apply le_size_drew | with_reducible apply le_size_setCell | refine Nat.le_trans ?_ (Below.size (by assumption))))⟩
                    case measure => simp [intOf]; omega
                  · have e3b : (x.2.2 != 0) = true := by simpa using e3
                    have e3c : (x.2.2 == 0) = false := by simpa using e3
                    by_cases e4 : y.2.2 = x.2.2
                    · have e4b : (y.2.2 == x.2.2) = true := by simpa using e4
                      go_wp2_with fail
                      go_quiet (fail)
                      go_wp2_with fail
                      refine bodyPost_ret (v := .tuple #[.int .i64 7, .int .i64 k]) (by simp [results, Try.results18, go_sem]) rfl ?_
                      obtain ⟨rfl, rfl⟩ := hret (by rw [HT.out]; simp [*])
                      exact ⟨rfl, hbw1.trans ((show Below w1.heap.size w1 _ from (by repeat' (first | with_reducible exact Below.refl _ _ | with_reducible assumption | with_reducible apply Below.drew | with_reducible apply below_drewN | with_reducible apply Below.alloc | with_reducible apply Below.setCell | (with_reducible refine Below.trans ?_ (Below.mono (by assumption) ?_)) | (simp; done) | (simp; omega) | omega | with_reducible apply le_size_alloc | with_reducible apply le_size_drewN | with_reducible apply le_size_drew | with_reducible apply le_size_setCell | refine Nat.le_trans ?_ (Below.size (by assumption))))).mono hbw1.size)⟩
                    · have e4b : (y.2.2 == x.2.2) = false := by simpa using e4
                      go_wp2_with fail
                      go_quiet (fail)
                      go_wp2_with fail
                      go_roundw
                      case rel => exact ⟨j + 1, by omega, by go_num, by show _ = _; rw [HT.out]; simp [*], (by repeat' (first | with_reducible exact Below.refl _ _ | with_reducible assumption | with_reducible apply Below.drew | with_reducible apply below_drewN | with_reducible apply Below.alloc | with_reducible apply Below.setCell | (with_reducible refine Below.trans ?_ (Below.mono (by assumption) ?_)) | (simp; done) | (simp; omega) | omega | with_reducible apply le_size_alloc | with_reducible apply le_size_drewN | with_reducible apply le_size_drew | with_reducible apply le_size_setCell | refine Nat.le_trans ?_ (Below.size (by assumption))))⟩
                      case measure => simp [intOf]; omega
            · obtain rfl : j = k := by omega
              go_wp2_with fail
              go_roundw
              case rel =>
                have hr := HRR.out
                rw [HJ.out, if_neg (by simp)] at hr
                exact ⟨j + 1, by omega, by go_num, hr, hbw1.trans (hbj.mono hbw1.size)⟩
              case measure => simp [intOf]; omega
      · have hd : l.drop k = [] := List.drop_eq_nil_of_le (by omega)
        have hz := HR.out
        rw [hd, chkG, HS.out] at hz
        obtain ⟨rfl, rfl⟩ := Prod.mk.inj hz
        clear hz HR HS hd
        go_wp2
        refine bodyPost_ret (v := .tuple #[.int .i64 0, .int .i64 (0 : Nat)]) (by simp [results, Try.results18, go_sem]) rfl ?_
        exact ⟨rfl, (by repeat' (first | with_reducible exact Below.refl _ _ | with_reducible assumption | with_reducible apply Below.drew | with_reducible apply below_drewN | with_reducible apply Below.alloc | with_reducible apply Below.setCell | (with_reducible refine Below.trans ?_ (Below.mono (by assumption) ?_)) | (simp; done) | (simp; omega) | omega | with_reducible apply le_size_alloc | with_reducible apply le_size_drewN | with_reducible apply le_size_drew | with_reducible apply le_size_setCell | refine Nat.le_trans ?_ (Below.size (by assumption))))⟩

theorem rown_any (A : Option Addr) (c : Nat) (l : List Wr) (w : World) (ha : SW w A l) (la : l.length ≤ 1000) :
    Calls Try.prog 40 #[.slice A l.length c] w fun e w' => ∃ A c, e = .returned (.slice A l.length c) ∧ CanApp w' w.heap.size A c l ∧ Mine w' w.heap.size A c l ∧ Below w.heap.size w w' := by
  have HA := Lib.hid ha
  clear ha
  go_enter Try.func40, Try.ntmps40
  go_wp2_with (at_builtin; refine wpList_appW rfl (.tmp 3) (.tmp 4) rfl _ w.heap.size (by simp) (some ⟨w.heap.size, 0, none⟩) 0 0 [] rfl (.inl ⟨rfl, SW.nil⟩) A c l.length l rfl (HA.out.ext (by repeat' (first | with_reducible exact Below.refl _ _ | with_reducible assumption | with_reducible apply Below.drew | with_reducible apply below_drewN | with_reducible apply Below.alloc | with_reducible apply Below.setCell | (with_reducible refine Below.trans ?_ (Below.mono (by assumption) ?_)) | (simp; done) | (simp; omega) | omega | with_reducible apply le_size_alloc | with_reducible apply le_size_drewN | with_reducible apply le_size_drew | with_reducible apply le_size_setCell | refine Nat.le_trans ?_ (Below.size (by assumption))))) (by simp; omega) rfl rfl ?_; intro A' c' w1 hc1 hb1 hm1)
  go_ret
  exact ⟨A', c', rfl, hc1, hm1 (.inl rfl), (by repeat' (first | with_reducible exact Below.refl _ _ | with_reducible assumption | with_reducible apply Below.drew | with_reducible apply below_drewN | with_reducible apply Below.alloc | with_reducible apply Below.setCell | (with_reducible refine Below.trans ?_ (Below.mono (by assumption) ?_)) | (simp; done) | (simp; omega) | omega | with_reducible apply le_size_alloc | with_reducible apply le_size_drewN | with_reducible apply le_size_drew | with_reducible apply le_size_setCell | refine Nat.le_trans ?_ (Below.size (by assumption))))⟩

/-- asks. -/
def askS (l : List Wr) (s f p : Int) : Int := if (chkS l).1 ≠ 0 then (chkS l).1 else if okW (s, f, 0) = true ∧ (1 ≤ p ∧ p ≤ 8) then 0 else 2
set_option maxRecDepth 100000 in
set_option maxHeartbeats 1000000 in
theorem asks_any (A : Option Addr) (c : Nat) (l : List Wr) (s f p : Int) (w : World) (ha : SW w A l) (la : l.length ≤ 1000) {z : Int} (h : askS l s f p = z) :
    Calls Try.prog 39 #[.slice A l.length c, .int .i64 s, .int .i64 f, .int .i64 p] w fun e w' => e = .returned (.int .i64 z) ∧ Below w.heap.size w w' := by
  have HA := Lib.hid ha
  clear ha
  obtain ⟨⟨y, n⟩, hk⟩ : ∃ r, chkS l = r := ⟨_, rfl⟩
  unfold askS at h
  rw [hk] at h
  have HK := Lib.hid hk
  clear hk
  by_cases hy : y = 0
  · subst hy
    rw [if_neg (by simp)] at h
    cases hok : okW (s, f, 0) with
    | false =>
      rw [hok, if_neg (by simp)] at h
      subst h
      go_enter Try.func39, Try.ntmps39
      go_wp2_with (first | (go_at_call 18; with_reducible refine (RCheck_any _ _ _ _ HA.out la HK.out).mono ?_; rintro e w1 ⟨rfl, hb1⟩) | (go_at_call 38; with_reducible refine (one_any _ _ _ _ hok).mono ?_; rintro e w2 ⟨rfl, hb2⟩; simp only [oneE, Bool.false_eq_true, if_false]))
      go_ret
      exact ⟨rfl, (by repeat' (first | with_reducible exact Below.refl _ _ | with_reducible assumption | with_reducible apply Below.drew | with_reducible apply below_drewN | with_reducible apply Below.alloc | with_reducible apply Below.setCell | (with_reducible refine Below.trans ?_ (Below.mono (by assumption) ?_)) | (simp; done) | (simp; omega) | omega | with_reducible apply le_size_alloc | with_reducible apply le_size_drewN | with_reducible apply le_size_drew | with_reducible apply le_size_setCell | refine Nat.le_trans ?_ (Below.size (by assumption))))⟩
    | true =>
      rw [hok] at h
      by_cases hp : 1 ≤ p ∧ p ≤ 8
      · rw [if_pos ⟨rfl, hp⟩] at h
        subst h
        obtain ⟨p1, p2⟩ := hp
        go_enter Try.func39, Try.ntmps39
        go_wp2_with (first | (go_at_call 18; with_reducible refine (RCheck_any _ _ _ _ HA.out la HK.out).mono ?_; rintro e w1 ⟨rfl, hb1⟩) | (go_at_call 38; with_reducible refine (one_any _ _ _ _ hok).mono ?_; rintro e w2 ⟨rfl, hb2⟩; simp only [oneE, if_true]))
        go_ret
        exact ⟨rfl, (by repeat' (first | with_reducible exact Below.refl _ _ | with_reducible assumption | with_reducible apply Below.drew | with_reducible apply below_drewN | with_reducible apply Below.alloc | with_reducible apply Below.setCell | (with_reducible refine Below.trans ?_ (Below.mono (by assumption) ?_)) | (simp; done) | (simp; omega) | omega | with_reducible apply le_size_alloc | with_reducible apply le_size_drewN | with_reducible apply le_size_drew | with_reducible apply le_size_setCell | refine Nat.le_trans ?_ (Below.size (by assumption))))⟩
      · rw [if_neg (fun h => hp h.2)] at h
        subst h
        rcases (by omega : p < 1 ∨ (1 ≤ p ∧ 8 < p)) with p1 | ⟨p1, p2⟩
        all_goals
          go_enter Try.func39, Try.ntmps39
          go_wp2_with (first | (go_at_call 18; with_reducible refine (RCheck_any _ _ _ _ HA.out la HK.out).mono ?_; rintro e w1 ⟨rfl, hb1⟩) | (go_at_call 38; with_reducible refine (one_any _ _ _ _ hok).mono ?_; rintro e w2 ⟨rfl, hb2⟩; simp only [oneE, if_true]))
          go_ret
          exact ⟨rfl, (by repeat' (first | with_reducible exact Below.refl _ _ | with_reducible assumption | with_reducible apply Below.drew | with_reducible apply below_drewN | with_reducible apply Below.alloc | with_reducible apply Below.setCell | (with_reducible refine Below.trans ?_ (Below.mono (by assumption) ?_)) | (simp; done) | (simp; omega) | omega | with_reducible apply le_size_alloc | with_reducible apply le_size_drewN | with_reducible apply le_size_drew | with_reducible apply le_size_setCell | refine Nat.le_trans ?_ (Below.size (by assumption))))⟩
  · rw [if_pos hy] at h
    subst h
    have hyb : (y == 0) = false := by simpa using hy
    go_enter Try.func39, Try.ntmps39
    go_wp2_with (first | (go_at_call 18; with_reducible refine (RCheck_any _ _ _ _ HA.out la HK.out).mono ?_; rintro e w1 ⟨rfl, hb1⟩))
    go_ret
    exact ⟨rfl, (by repeat' (first | with_reducible exact Below.refl _ _ | with_reducible assumption | with_reducible apply Below.drew | with_reducible apply below_drewN | with_reducible apply Below.alloc | with_reducible apply Below.setCell | (with_reducible refine Below.trans ?_ (Below.mono (by assumption) ?_)) | (simp; done) | (simp; omega) | omega | with_reducible apply le_size_alloc | with_reducible apply le_size_drewN | with_reducible apply le_size_drew | with_reducible apply le_size_setCell | refine Nat.le_trans ?_ (Below.size (by assumption))))⟩

/-- find: the number, or -1. -/
def rfnS (l : List Wr) (s : Int) : Int := match l.findIdx? (fun x => decide (x.1 = s)) with | none => -1 | some i => (i : Int)
theorem findIdx_take {p : Wr → Bool} {l : List Wr} {k : Nat} (h : ∀ j : Nat, j < k → ∀ x, l[j]? = some x → p x = false) (hk : l.length ≤ k) : l.findIdx? p = none := by
  rw [List.findIdx?_eq_none_iff]
  intro x hx
  obtain ⟨j, hj, rfl⟩ := List.getElem_of_mem hx
  exact h j (by omega) _ (List.getElem?_eq_getElem hj)
theorem findIdx_hit {p : Wr → Bool} {l : List Wr} {k : Nat} {x : Wr} (h : ∀ j : Nat, j < k → ∀ x, l[j]? = some x → p x = false) (hx : l[k]? = some x) (hp : p x = true) : l.findIdx? p = some k := by
  obtain ⟨hk, rfl⟩ := List.getElem?_eq_some_iff.1 hx
  rw [List.findIdx?_eq_some_iff_getElem]
  exact ⟨hk, hp, fun j hj => by rw [h j hj _ (List.getElem?_eq_getElem (by omega))]; simp⟩
set_option maxRecDepth 100000 in
set_option maxHeartbeats 1000000 in
theorem rfind_any (A : Option Addr) (c : Nat) (l : List Wr) (s : Int) (w : World) (ha : SW w A l) (la : l.length ≤ 1000) :
    Calls Try.prog 41 #[.slice A l.length c, .int .i64 s] w fun e w' => e = .returned (.int .i64 (rfnS l s)) ∧ Below w.heap.size w w' := by
  have HA := Lib.hid ha
  clear ha
  go_enter Try.func41, Try.ntmps41
  go_wp2
  go_loopw [5] (fun i wr => ∃ k : Nat, k ≤ l.length ∧ i = .int .i64 k ∧ Hid (∀ j : Nat, j < k → ∀ x, l[j]? = some x → decide (x.1 = s) = false) ∧ Below w.heap.size w wr) (fun i _ => l.length - (intOf i).toNat)
  case atStart => exact ⟨0, by omega, rfl, fun j hj => absurd hj (by omega), Below.refl _ _⟩
  case round =>
    obtain ⟨k, hk, rfl, HR, hbw⟩ := hrel
    by_cases hlt : k < l.length
    · obtain ⟨b, off, x, rfl, hbl, hx, q0, q1, q2⟩ := (HA.out.ext hbw).at_ hlt
      have i1 : (k : Int) < l.length := by omega
      have HX := Lib.hid hx
      clear hx
      by_cases e1 : x.1 = s
      · have HF : Hid (rfnS l s = k) := by show _ = _; unfold rfnS; rw [findIdx_hit HR.out HX.out (by simpa using e1)]
        have e1' : (x.1 == s) = true := by simpa using e1
        go_wp2
        go_ret
        exact ⟨ret_int HF.out.symm, (by repeat' (first | with_reducible exact Below.refl _ _ | with_reducible assumption | with_reducible apply Below.drew | with_reducible apply below_drewN | with_reducible apply Below.alloc | with_reducible apply Below.setCell | (with_reducible refine Below.trans ?_ (Below.mono (by assumption) ?_)) | (simp; done) | (simp; omega) | omega | with_reducible apply le_size_alloc | with_reducible apply le_size_drewN | with_reducible apply le_size_drew | with_reducible apply le_size_setCell | refine Nat.le_trans ?_ (Below.size (by assumption))))⟩
      · have e1' : (x.1 == s) = false := by simpa using e1
        go_wp2
        go_roundw
        case rel =>
          refine ⟨k + 1, by omega, by go_num, fun j hj y hy => ?_, (by repeat' (first | with_reducible exact Below.refl _ _ | with_reducible assumption | with_reducible apply Below.drew | with_reducible apply below_drewN | with_reducible apply Below.alloc | with_reducible apply Below.setCell | (with_reducible refine Below.trans ?_ (Below.mono (by assumption) ?_)) | (simp; done) | (simp; omega) | omega | with_reducible apply le_size_alloc | with_reducible apply le_size_drewN | with_reducible apply le_size_drew | with_reducible apply le_size_setCell | refine Nat.le_trans ?_ (Below.size (by assumption))))⟩
          rcases (by omega : j < k ∨ j = k) with h | rfl
          · exact HR.out j h y hy
          · rw [HX.out] at hy
            injection hy with hy
            subst hy
            simpa using e1
        case measure => simp [intOf]; omega
    · have HF : Hid (rfnS l s = -1) := by show _ = _; unfold rfnS; rw [findIdx_take HR.out (by omega)]
      go_wp2
      go_ret
      exact ⟨ret_int HF.out.symm, (by repeat' (first | with_reducible exact Below.refl _ _ | with_reducible assumption | with_reducible apply Below.drew | with_reducible apply below_drewN | with_reducible apply Below.alloc | with_reducible apply Below.setCell | (with_reducible refine Below.trans ?_ (Below.mono (by assumption) ?_)) | (simp; done) | (simp; omega) | omega | with_reducible apply le_size_alloc | with_reducible apply le_size_drewN | with_reducible apply le_size_drew | with_reducible apply le_size_setCell | refine Nat.le_trans ?_ (Below.size (by assumption))))⟩
end Go.Proofs.Ytnglompninkmbaa
