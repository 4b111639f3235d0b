/- The law's own helpers: made, pick. -/
import Derived.Test.YtngenoblifhnpaaDoorRiK
import Derived.Test.YtngenoblifhnpaaDoorKit
import Derived.Test.YtngenoblifhnpaaDoorKitN
namespace Go.Proofs.YtngenoblifhnpaaDoor
open Go.RowKit Go.Maps

/-- The frame that is being written, out of a number. -/
def madW (n : Int) : Int := if n % 1000 % 2 = 1 then n % 1000 / 2 % 256 else -1
theorem madW_ok (n : Int) : madW n = -1 ∨ (0 ≤ madW n ∧ madW n < 256) := by
  unfold madW
  split <;> omega

theorem box_below {w w2 : World} {o : Obj} (h : Below (w.alloc o).heap.size (w.alloc o) w2) : Below w.heap.size w w2 := ((Below.refl _ _).alloc (Nat.le_refl _) _).trans (h.mono (by simp))
set_option maxRecDepth 100000 in
set_option maxHeartbeats 4000000 in
theorem made_any (n : Int) (w : World) :
    Calls Tryd.prog 16 #[.int .i64 n] w fun e w' => e = .returned (.tuple #[.agg #[.int .i64 1, .int .i64 (-1), .int .i64 (madW n)], .bool true]) ∧ Below w.heap.size w w' := by
  obtain ⟨m, hm⟩ : ∃ m, n % 1000 = m := ⟨_, rfl⟩
  have m0 : 0 ≤ m := by omega
  have m1 : m < 1000 := by omega
  have HM := Lib.hid hm
  clear hm
  by_cases hp : m % 2 = 1
  · have hpb : (m % 2 == 1) = true := by simpa using hp
    obtain ⟨g, hg⟩ : ∃ g, m / 2 % 256 = g := ⟨_, rfl⟩
    have HG : Hid (madW n = g) := by show _ = _; unfold madW; rw [HM.out, if_pos hp, hg]
    have HB : Hid (begR g = ((1, -1, g), 0)) := by
      show _ = _
      unfold begR
      rw [if_pos]
      unfold frOk
      simp
      omega
    have hq : m / 2 % 256 = g := hg
    clear hp hg
    have HP := Lib.hid hpb; have HQ := Lib.hid hq
    clear hpb hq
    go_enter Tryd.func16, Tryd.ntmps16
    go_wp2_with fail
    refine (Mod_any n 1000 _ (by omega) (by omega)).mono ?_
    rw [HM.out]
    rintro e w1 ⟨rfl, rfl⟩
    have hpb := HP.out; have hq := HQ.out
    go_wp2_with fail
    refine (Begin_any _ _ HB.out).mono ?_
    rintro e w2 ⟨rfl, hb2⟩
    clear hq hpb
    have q0 := cell_keep (p := ⟨w.heap.size, 0, none⟩) hb2 (by simp; rfl) (by simp)
    have q1 := cell_keep (p := ⟨w.heap.size, 1, none⟩) hb2 (by simp; rfl) (by simp)
    have q2 := cell_keep (p := ⟨w.heap.size, 2, none⟩) hb2 (by simp; rfl) (by simp)
    have f0 : w2.frozen? ⟨w.heap.size, 0, none⟩ = false := frozen_keep hb2 (by simp) (by simp)
    have f1 : w2.frozen? ⟨w.heap.size, 1, none⟩ = false := frozen_keep hb2 (by simp) (by simp)
    have f2 : w2.frozen? ⟨w.heap.size, 2, none⟩ = false := frozen_keep hb2 (by simp) (by simp)
    have zz : w.heap.size < w2.heap.size := by have := hb2.size; simp at this; omega
    have zn : w.heap.size ≠ w2.heap.size := by omega
    have HB2 : Hid (Below w.heap.size w w2) := box_below hb2
    clear hb2
    go_wp2_with fail
    refine bodyPost_ret (v := .tuple #[.agg #[.int .i64 1, .int .i64 (-1), .int .i64 g], .bool true]) (by simp [results, Tryd.results16, go_sem, q0, q1, q2, zn, zz]) rfl ?_
    refine ⟨by rw [HG.out], ?_⟩
    exact (((HB2.out.setCell (p := ⟨w.heap.size, 0, none⟩) (Nat.le_refl _) _).setCell (p := ⟨w.heap.size, 1, none⟩) (Nat.le_refl _) _).setCell (p := ⟨w.heap.size, 2, none⟩) (Nat.le_refl _) _).alloc (by simp [World.setCell]; omega) _
  · have hpb : (m % 2 == 1) = false := by simpa using hp
    have HG : Hid (madW n = -1) := by show _ = _; unfold madW; rw [HM.out, if_neg hp]
    have HB : Hid (begR (-1) = ((1, -1, -1), 0)) := by show _ = _; decide
    clear hp
    have HP := Lib.hid hpb
    clear hpb
    go_enter Tryd.func16, Tryd.ntmps16
    go_wp2_with fail
    refine (Mod_any n 1000 _ (by omega) (by omega)).mono ?_
    rw [HM.out]
    rintro e w1 ⟨rfl, rfl⟩
    have hpb := HP.out
    go_wp2_with fail
    refine (Begin_any _ _ HB.out).mono ?_
    rintro e w2 ⟨rfl, hb2⟩
    clear hpb
    have q0 := cell_keep (p := ⟨w.heap.size, 0, none⟩) hb2 (by simp; rfl) (by simp)
    have q1 := cell_keep (p := ⟨w.heap.size, 1, none⟩) hb2 (by simp; rfl) (by simp)
    have q2 := cell_keep (p := ⟨w.heap.size, 2, none⟩) hb2 (by simp; rfl) (by simp)
    have f0 : w2.frozen? ⟨w.heap.size, 0, none⟩ = false := frozen_keep hb2 (by simp) (by simp)
    have f1 : w2.frozen? ⟨w.heap.size, 1, none⟩ = false := frozen_keep hb2 (by simp) (by simp)
    have f2 : w2.frozen? ⟨w.heap.size, 2, none⟩ = false := frozen_keep hb2 (by simp) (by simp)
    have zz : w.heap.size < w2.heap.size := by have := hb2.size; simp at this; omega
    have zn : w.heap.size ≠ w2.heap.size := by omega
    have HB2 : Hid (Below w.heap.size w w2) := box_below hb2
    clear hb2
    go_wp2_with fail
    refine bodyPost_ret (v := .tuple #[.agg #[.int .i64 1, .int .i64 (-1), .int .i64 (-1)], .bool true]) (by simp [results, Tryd.results16, go_sem, q0, q1, q2, zn, zz]) rfl ?_
    refine ⟨by rw [HG.out], ?_⟩
    exact (((HB2.out.setCell (p := ⟨w.heap.size, 0, none⟩) (Nat.le_refl _) _).setCell (p := ⟨w.heap.size, 1, none⟩) (Nat.le_refl _) _).setCell (p := ⟨w.heap.size, 2, none⟩) (Nat.le_refl _) _).alloc (by simp [World.setCell]; omega) _
/-- The events that pick chooses among. -/
def pckL (r : RI) (kills : Bool) : List Int := if kills = false ∧ (evsR r).getLast? = some 6 then (evsR r).dropLast else evsR r
/-- pick: the event, its frame, whether there is one. -/
def pckR (r : RI) (n : Int) (kills : Bool) : Int × Int × Bool :=
  if pckL r kills = [] then (0, 0, false)
  else if (pckL r kills).getD (n % 1048576 % (pckL r kills).length).toNat 0 = 1 then (1, n % 1048576 / 8 % 256, true)
  else ((pckL r kills).getD (n % 1048576 % (pckL r kills).length).toNat 0, -1, true)

def PckPost (R : Int × Int × Bool) (w : World) (e : Ending) (w' : World) : Prop := e = .returned (.tuple #[.int .i64 R.1, .int .i64 R.2.1, .bool R.2.2]) ∧ Below w.heap.size w w'

set_option maxRecDepth 100000 in
set_option maxHeartbeats 4000000 in
theorem pick_all (s f g n : Int) (w : World) (hal : AL w) (hc : chkR (s, f, g) = 0) :
    Calls Tryd.prog 18 #[.agg #[.int .i64 s, .int .i64 f, .int .i64 g], .int .i64 n, .bool true] w (PckPost (pckR (s, f, g) n true) w) := by
  obtain ⟨h1, h8⟩ := chk_state hc
  have HC : Hid (eveR (s, f, g) = (evsR (s, f, g), 0)) := by show _ = _; unfold eveR; rw [if_pos hc]
  have HAL := Lib.hid hal
  have HL : Hid (pckL (s, f, g) true = evsR (s, f, g)) := by show _ = _; unfold pckL; rw [if_neg (by simp)]
  obtain ⟨x, hx⟩ : ∃ x, n % 1048576 = x := ⟨_, rfl⟩
  have x0 : 0 ≤ x := by omega
  have x1 : x < 1048576 := by omega
  have HX := Lib.hid hx
  clear hx hal hc
  obtain ⟨l, hl⟩ : ∃ l, evsR (s, f, g) = l := ⟨_, rfl⟩
  have hll : l.length ≤ 6 := by rw [← hl]; exact evs_len _
  rw [hl] at HC HL
  clear hl
  go_enter Tryd.func18, Tryd.ntmps18
  go_wp2_with fail
  refine (Mod_any n 1048576 _ (by omega) (by omega)).mono ?_
  rw [HX.out]
  rintro e w1 ⟨rfl, rfl⟩
  go_wp2_with fail
  refine (Events_any s f g _ (HAL.out.ext (by repeat' (first | with_reducible exact Below.refl _ _ | with_reducible assumption | with_reducible apply Below.drew | with_reducible apply below_drewN | with_reducible apply Below.alloc | with_reducible apply Below.setCell | (with_reducible refine Below.trans ?_ (Below.mono (by assumption) ?_)) | (simp; done) | (simp; omega) | omega | with_reducible apply le_size_alloc | with_reducible apply le_size_drewN | with_reducible apply le_size_drew | with_reducible apply le_size_setCell | refine Nat.le_trans ?_ (Below.size (by assumption)))))).mono ?_
  unfold LsPost
  rw [HC.out]
  rintro e w2 ⟨A, c, rfl, hi, hb2⟩
  have HI := Lib.hid hi
  clear hi
  cases hle : l with
  | nil =>
    have HLE := Lib.hid hle
    clear hle
    go_wp2_with fail
    go_ret3
    unfold PckPost
    rw [show pckR (s, f, g) n true = (0, 0, false) from by unfold pckR; rw [HL.out, HLE.out, if_pos rfl]]
    exact ⟨rfl, (by repeat' (first | with_reducible exact Below.refl _ _ | with_reducible assumption | with_reducible apply Below.drew | with_reducible apply below_drewN | with_reducible apply Below.alloc | with_reducible apply Below.setCell | (with_reducible refine Below.trans ?_ (Below.mono (by assumption) ?_)) | (simp; done) | (simp; omega) | omega | with_reducible apply le_size_alloc | with_reducible apply le_size_drewN | with_reducible apply le_size_drew | with_reducible apply le_size_setCell | refine Nat.le_trans ?_ (Below.size (by assumption))))⟩
  | cons y t =>
    obtain ⟨k, hk⟩ : ∃ k, t.length = k := ⟨_, rfl⟩
    obtain ⟨j, hj⟩ : ∃ j : Nat, x % ((k : Int) + 1) = j := ⟨(x % ((k : Int) + 1)).toNat, by have := Int.emod_nonneg x (show (k : Int) + 1 ≠ 0 by omega); omega⟩
    have hjk : j < k + 1 := by have := Int.emod_lt_of_pos x (show 0 < (k : Int) + 1 by omega); omega
    rw [hle] at hll HI
    dsimp only at HI ⊢
    simp only [List.length_cons] at hll ⊢
    rw [hk] at hll ⊢
    obtain ⟨b, off, ev, rfl, hbl, hev, hce⟩ := HI.out.1.at_ (k := j) (by simp; omega)
    have hkc : k + 1 ≤ c := by have := HI.out.2; simp at this; omega
    have HE : Hid (pckR (s, f, g) n true = if ev = 1 then (1, x / 8 % 256, true) else (ev, -1, true)) := by
      show _ = _
      unfold pckR
      rw [HL.out, hle, if_neg (by simp), HX.out, List.length_cons, hk, show ((k + 1 : Nat) : Int) = (k : Int) + 1 by omega, hj, Int.toNat_natCast, List.getD_eq_getElem?_getD, hev]
      try simp only [Option.getD_some]
      try (split <;> simp_all)
    have HJ := Lib.hid hj; have HLE := Lib.hid hle
    clear hj hle hev hk
    have ji : (0 : Int) ≤ x % ((k : Int) + 1) := by rw [HJ.out]; omega
    have ji2 : x % ((k : Int) + 1) < (k : Int) + 1 := by rw [HJ.out]; omega
    have hj := HJ.out
    by_cases he : ev = 1
    · have HE2 : Hid (pckR (s, f, g) n true = (1, x / 8 % 256, true)) := by show _ = _; rw [HE.out, if_pos he]
      clear HE
      subst he
      go_wp2_with fail
      go_ret3
      unfold PckPost
      rw [HE2.out]
      exact ⟨rfl, (by repeat' (first | with_reducible exact Below.refl _ _ | with_reducible assumption | with_reducible apply Below.drew | with_reducible apply below_drewN | with_reducible apply Below.alloc | with_reducible apply Below.setCell | (with_reducible refine Below.trans ?_ (Below.mono (by assumption) ?_)) | (simp; done) | (simp; omega) | omega | with_reducible apply le_size_alloc | with_reducible apply le_size_drewN | with_reducible apply le_size_drew | with_reducible apply le_size_setCell | refine Nat.le_trans ?_ (Below.size (by assumption))))⟩
    · have HE2 : Hid (pckR (s, f, g) n true = (ev, -1, true)) := by show _ = _; rw [HE.out, if_neg he]
      have heb : (ev == 1) = false := by simpa using he
      clear HE he
      go_wp2_with fail
      go_ret3
      unfold PckPost
      rw [HE2.out]
      exact ⟨rfl, (by repeat' (first | with_reducible exact Below.refl _ _ | with_reducible assumption | with_reducible apply Below.drew | with_reducible apply below_drewN | with_reducible apply Below.alloc | with_reducible apply Below.setCell | (with_reducible refine Below.trans ?_ (Below.mono (by assumption) ?_)) | (simp; done) | (simp; omega) | omega | with_reducible apply le_size_alloc | with_reducible apply le_size_drewN | with_reducible apply le_size_drew | with_reducible apply le_size_setCell | refine Nat.le_trans ?_ (Below.size (by assumption))))⟩

set_option maxRecDepth 100000 in
set_option maxHeartbeats 4000000 in
theorem pick_no (s f g n : Int) (w : World) (hal : AL w) (hc : chkR (s, f, g) = 0) :
    Calls Tryd.prog 18 #[.agg #[.int .i64 s, .int .i64 f, .int .i64 g], .int .i64 n, .bool false] w (PckPost (pckR (s, f, g) n false) w) := by
  obtain ⟨h1, h8⟩ := chk_state hc
  have HC : Hid (eveR (s, f, g) = (evsR (s, f, g), 0)) := by show _ = _; unfold eveR; rw [if_pos hc]
  have HAL := Lib.hid hal
  obtain ⟨x, hx⟩ : ∃ x, n % 1048576 = x := ⟨_, rfl⟩
  have x0 : 0 ≤ x := by omega
  have x1 : x < 1048576 := by omega
  have HX := Lib.hid hx
  clear hx hal hc
  obtain ⟨l, hl⟩ : ∃ l, evsR (s, f, g) = l := ⟨_, rfl⟩
  have hll : l.length ≤ 6 := by rw [← hl]; exact evs_len _
  have HL : Hid (pckL (s, f, g) false = if l.getLast? = some 6 then l.dropLast else l) := by show _ = _; unfold pckL; rw [hl]; simp
  rw [hl] at HC
  clear hl
  go_enter Tryd.func18, Tryd.ntmps18
  go_wp2_with fail
  refine (Mod_any n 1048576 _ (by omega) (by omega)).mono ?_
  rw [HX.out]
  rintro e w1 ⟨rfl, rfl⟩
  go_wp2_with fail
  refine (Events_any s f g _ (HAL.out.ext (by repeat' (first | with_reducible exact Below.refl _ _ | with_reducible assumption | with_reducible apply Below.drew | with_reducible apply below_drewN | with_reducible apply Below.alloc | with_reducible apply Below.setCell | (with_reducible refine Below.trans ?_ (Below.mono (by assumption) ?_)) | (simp; done) | (simp; omega) | omega | with_reducible apply le_size_alloc | with_reducible apply le_size_drewN | with_reducible apply le_size_drew | with_reducible apply le_size_setCell | refine Nat.le_trans ?_ (Below.size (by assumption)))))).mono ?_
  unfold LsPost
  rw [HC.out]
  rintro e w2 ⟨A, c, rfl, hi, hb2⟩
  have HI := Lib.hid hi
  clear hi
  cases hle : l with
  | nil =>
    have HLE := Lib.hid hle
    clear hle
    go_wp2_with fail
    go_ret3
    unfold PckPost
    rw [show pckR (s, f, g) n false = (0, 0, false) from by unfold pckR; rw [HL.out, HLE.out, if_pos (by simp)]]
    exact ⟨rfl, (by repeat' (first | with_reducible exact Below.refl _ _ | with_reducible assumption | with_reducible apply Below.drew | with_reducible apply below_drewN | with_reducible apply Below.alloc | with_reducible apply Below.setCell | (with_reducible refine Below.trans ?_ (Below.mono (by assumption) ?_)) | (simp; done) | (simp; omega) | omega | with_reducible apply le_size_alloc | with_reducible apply le_size_drewN | with_reducible apply le_size_drew | with_reducible apply le_size_setCell | refine Nat.le_trans ?_ (Below.size (by assumption))))⟩
  | cons y t =>
    obtain ⟨k, hk⟩ : ∃ k, t.length = k := ⟨_, rfl⟩
    rw [hle] at hll HI
    dsimp only at HI ⊢
    simp only [List.length_cons] at hll ⊢
    rw [hk] at hll ⊢
    obtain ⟨b, off, z, rfl, hbl, hz, hcz⟩ := HI.out.1.at_ (k := k) (by simp; omega)
    have hkc : k + 1 ≤ c := by have := HI.out.2; simp at this; omega
    have hgl : (y :: t).getLast? = some z := by rw [List.getLast?_eq_getElem?, ← hz]; simp [hk]
    have kb : (0 : Int) ≤ (k : Int) := by omega
    have kb2 : (k : Int) < (k : Int) + 1 := by omega
    have kb3 : (k : Int) ≤ (c : Int) := by omega
    by_cases h6 : z = 6
    · have HL2 : Hid (pckL (s, f, g) false = (y :: t).dropLast) := by show _ = _; rw [HL.out, hle, if_pos (by rw [hgl, h6])]
      have hdl : (y :: t).dropLast.length = k := by simp [hk]
      have hde : ∀ j : Nat, j < k → (y :: t).dropLast[j]? = (y :: t)[j]? := fun j hj => by rw [List.getElem?_dropLast, if_pos (by simp [hk]; omega)]
      have HD := Lib.hid (And.intro hdl hde)
      clear HL hle hgl hz hk hdl hde
      subst h6
      cases k with
      | zero =>
        rw [Nat.add_zero] at hcz
        go_wp2_with fail
        go_ret3
        unfold PckPost
        rw [show pckR (s, f, g) n false = (0, 0, false) from by unfold pckR; rw [if_pos (by rw [HL2.out]; exact List.length_eq_zero_iff.1 HD.out.1)]]
        exact ⟨rfl, (by repeat' (first | with_reducible exact Below.refl _ _ | with_reducible assumption | with_reducible apply Below.drew | with_reducible apply below_drewN | with_reducible apply Below.alloc | with_reducible apply Below.setCell | (with_reducible refine Below.trans ?_ (Below.mono (by assumption) ?_)) | (simp; done) | (simp; omega) | omega | with_reducible apply le_size_alloc | with_reducible apply le_size_drewN | with_reducible apply le_size_drew | with_reducible apply le_size_setCell | refine Nat.le_trans ?_ (Below.size (by assumption))))⟩
      | succ m =>
        obtain ⟨j, hj⟩ : ∃ j : Nat, x % ((m : Int) + 1) = j := ⟨(x % ((m : Int) + 1)).toNat, by have := Int.emod_nonneg x (show (m : Int) + 1 ≠ 0 by omega); omega⟩
        have hjk : j < m + 1 := by have := Int.emod_lt_of_pos x (show 0 < (m : Int) + 1 by omega); omega
        obtain ⟨b', off', ev, he', _, hev, hce⟩ := HI.out.1.at_ (k := j) (by have := HD.out.1; simp at this; simp; omega)
        injection he' with he'
        injection he' with e1 e2
        subst e1 e2
        have HE : Hid (pckR (s, f, g) n false = if ev = 1 then (1, x / 8 % 256, true) else (ev, -1, true)) := by
          show _ = _
          have hne : ¬ (y :: t).dropLast = [] := fun h => by have := HD.out.1; rw [h] at this; simp at this
          unfold pckR
          rw [HL2.out, if_neg hne, HX.out, HD.out.1, show ((m + 1 : Nat) : Int) = (m : Int) + 1 by omega, hj, Int.toNat_natCast, List.getD_eq_getElem?_getD, HD.out.2 j hjk, hev]
          try simp only [Option.getD_some]
          try (split <;> simp_all)
        have HJ := Lib.hid hj
        clear hj hev
        have ji : (0 : Int) ≤ x % ((m : Int) + 1) := by rw [HJ.out]; omega
        have ji2 : x % ((m : Int) + 1) < (m : Int) + 1 := by rw [HJ.out]; omega
        have hj := HJ.out
        by_cases he : ev = 1
        · have HE2 : Hid (pckR (s, f, g) n false = (1, x / 8 % 256, true)) := by show _ = _; rw [HE.out, if_pos he]
          clear HE
          subst he
          go_wp2_with fail
          go_ret3
          unfold PckPost
          rw [HE2.out]
          exact ⟨rfl, (by repeat' (first | with_reducible exact Below.refl _ _ | with_reducible assumption | with_reducible apply Below.drew | with_reducible apply below_drewN | with_reducible apply Below.alloc | with_reducible apply Below.setCell | (with_reducible refine Below.trans ?_ (Below.mono (by assumption) ?_)) | (simp; done) | (simp; omega) | omega | with_reducible apply le_size_alloc | with_reducible apply le_size_drewN | with_reducible apply le_size_drew | with_reducible apply le_size_setCell | refine Nat.le_trans ?_ (Below.size (by assumption))))⟩
        · have HE2 : Hid (pckR (s, f, g) n false = (ev, -1, true)) := by show _ = _; rw [HE.out, if_neg he]
          have heb : (ev == 1) = false := by simpa using he
          clear HE he
          go_wp2_with fail
          go_ret3
          unfold PckPost
          rw [HE2.out]
          exact ⟨rfl, (by repeat' (first | with_reducible exact Below.refl _ _ | with_reducible assumption | with_reducible apply Below.drew | with_reducible apply below_drewN | with_reducible apply Below.alloc | with_reducible apply Below.setCell | (with_reducible refine Below.trans ?_ (Below.mono (by assumption) ?_)) | (simp; done) | (simp; omega) | omega | with_reducible apply le_size_alloc | with_reducible apply le_size_drewN | with_reducible apply le_size_drew | with_reducible apply le_size_setCell | refine Nat.le_trans ?_ (Below.size (by assumption))))⟩
    · have HL2 : Hid (pckL (s, f, g) false = y :: t) := by show _ = _; rw [HL.out, hle, if_neg (by rw [hgl]; intro e; injection e; contradiction)]
      have hzb : (z == 6) = false := by simpa using h6
      have HK := Lib.hid hk
      clear HL hle hgl hz hk h6
      obtain ⟨j, hj⟩ : ∃ j : Nat, x % ((k : Int) + 1) = j := ⟨(x % ((k : Int) + 1)).toNat, by have := Int.emod_nonneg x (show (k : Int) + 1 ≠ 0 by omega); omega⟩
      have hjk : j < k + 1 := by have := Int.emod_lt_of_pos x (show 0 < (k : Int) + 1 by omega); omega
      obtain ⟨b', off', ev, he', _, hev, hce⟩ := HI.out.1.at_ (k := j) (by have := HK.out; simp; omega)
      injection he' with he'
      injection he' with e1 e2
      subst e1 e2
      have HE : Hid (pckR (s, f, g) n false = if ev = 1 then (1, x / 8 % 256, true) else (ev, -1, true)) := by
        show _ = _
        unfold pckR
        rw [HL2.out, if_neg (by simp), HX.out, List.length_cons, HK.out, show ((k + 1 : Nat) : Int) = (k : Int) + 1 by omega, hj, Int.toNat_natCast, List.getD_eq_getElem?_getD, hev]
        try simp only [Option.getD_some]
        try (split <;> simp_all)
      have HJ := Lib.hid hj
      clear hj hev
      have ji : (0 : Int) ≤ x % ((k : Int) + 1) := by rw [HJ.out]; omega
      have ji2 : x % ((k : Int) + 1) < (k : Int) + 1 := by rw [HJ.out]; omega
      have hj := HJ.out
      by_cases he : ev = 1
      · have HE2 : Hid (pckR (s, f, g) n false = (1, x / 8 % 256, true)) := by show _ = _; rw [HE.out, if_pos he]
        clear HE
        subst he
        go_wp2_with fail
        go_ret3
        unfold PckPost
        rw [HE2.out]
        exact ⟨rfl, (by repeat' (first | with_reducible exact Below.refl _ _ | with_reducible assumption | with_reducible apply Below.drew | with_reducible apply below_drewN | with_reducible apply Below.alloc | with_reducible apply Below.setCell | (with_reducible refine Below.trans ?_ (Below.mono (by assumption) ?_)) | (simp; done) | (simp; omega) | omega | with_reducible apply le_size_alloc | with_reducible apply le_size_drewN | with_reducible apply le_size_drew | with_reducible apply le_size_setCell | refine Nat.le_trans ?_ (Below.size (by assumption))))⟩
      · have HE2 : Hid (pckR (s, f, g) n false = (ev, -1, true)) := by show _ = _; rw [HE.out, if_neg he]
        have heb : (ev == 1) = false := by simpa using he
        clear HE he
        go_wp2_with fail
        go_ret3
        unfold PckPost
        rw [HE2.out]
        exact ⟨rfl, (by repeat' (first | with_reducible exact Below.refl _ _ | with_reducible assumption | with_reducible apply Below.drew | with_reducible apply below_drewN | with_reducible apply Below.alloc | with_reducible apply Below.setCell | (with_reducible refine Below.trans ?_ (Below.mono (by assumption) ?_)) | (simp; done) | (simp; omega) | omega | with_reducible apply le_size_alloc | with_reducible apply le_size_drewN | with_reducible apply le_size_drew | with_reducible apply le_size_setCell | refine Nat.le_trans ?_ (Below.size (by assumption))))⟩
end Go.Proofs.YtngenoblifhnpaaDoor
