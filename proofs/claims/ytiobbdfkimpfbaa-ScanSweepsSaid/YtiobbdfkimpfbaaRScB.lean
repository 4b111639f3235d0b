/- headgateref30: in, counted, Sweep, Victims, First, Safe. Written by gen_rscb.py. -/
import Derived.Test.YtiobbdfkimpfbaaRScA
import Derived.Test.YtiobbdfkimpfbaaScSf
namespace Go.Proofs.Ytiobbdfkimpfbaa
set_option linter.unusedSimpArgs false
set_option linter.unusedVariables false
open Go.RowKit Go.Maps

set_option maxRecDepth 100000 in
set_option maxHeartbeats 8000000 in
theorem Rin_any (A : Option Addr) (c : Nat) (xs : List Int) (x : Int) (w : World) (h : Sl w (.int .i64) A xs) (hn : xs.length ≤ 100000) :
    Calls Try.prog 59 #[.slice A xs.length c, .int .i64 x] w fun e w' => e = .returned (.bool (decide (x ∈ xs))) ∧ w = w' := by
  have HN := Lib.hid h
  clear h
  go_enter Try.func59, Try.ntmps59
  go_wp2_with fail
  go_loopw [5] (fun i wr => ∃ k : Nat, k ≤ xs.length ∧ i = .int .i64 k ∧ w = wr ∧ Hid (x ∉ xs.take k)) (fun i _ => xs.length - (intOf i).toNat)
  case atStart => exact ⟨0, Nat.zero_le _, rfl, rfl, fun h => by simp at h⟩
  case round =>
    obtain ⟨k, hk, rfl, rfl, HNO⟩ := hrel
    by_cases hlt : k < xs.length
    · obtain ⟨b, off, y, rfl, hb, hx, hc⟩ := HN.out.at_ hlt
      have i1 : (k : Int) < xs.length := by omega
      have HX := Lib.hid hx
      clear hx
      by_cases hxy : y = x
      · have HR : Hid (decide (x ∈ xs) = true) := by show _ = _; rw [decide_eq_true_iff, ← hxy]; exact List.mem_of_getElem? HX.out
        have e0 : (y == x) = true := by simp [hxy]
        clear hxy
        go_wp2_with fail
        go_ret
        exact ⟨ret_bool HR.out.symm, rfl⟩
      · have e0 : (y == x) = false := by simp [hxy]
        have HNE := Lib.hid hxy
        clear hxy
        go_wp2_with fail
        go_roundw
        case rel =>
          refine ⟨k + 1, by omega, by go_num, by first | rfl | trivial, ?_⟩
          show _ ∉ _
          rw [List.take_add_one, HX.out]
          intro hm
          rcases List.mem_append.1 hm with hm | hm
          · exact HNO.out hm
          · simp at hm; exact HNE.out hm.symm
        case measure => simp [intOf]; omega
    · obtain rfl : k = xs.length := by omega
      have HR : Hid (decide (x ∈ xs) = false) := by show _ = _; rw [decide_eq_false_iff_not]; have := HNO.out; rwa [List.take_length] at this
      go_wp2_with fail
      go_ret
      exact ⟨ret_bool HR.out.symm, rfl⟩

/-- The error of lists, a target and a number of steps. -/
def ctdS (xs ys : List Int) (rs : List Bool) (T n : Int) : Int := sndS xs ys rs (tgtB T && cntB n)
theorem ctd_of {xs ys : List Int} {rs : List Bool} {T n : Int} : ctdS xs ys rs T n = if sndS xs ys rs (tgtB T) ≠ 0 then sndS xs ys rs (tgtB T) else if cntB n then 0 else 2 := by
  unfold ctdS sndS
  by_cases h : lruChk xs ys rs ≠ 0
  · rw [if_pos h, if_pos h, if_pos h]
  · rw [if_neg h, if_neg h]
    cases tgtB T <;> cases cntB n <;> simp
theorem ctd_ok {xs ys : List Int} {rs : List Bool} {T n : Int} (h : ctdS xs ys rs T n = 0) : lruChk xs ys rs = 0 ∧ tgtB T = true ∧ 0 ≤ n ∧ n ≤ 1000 := by
  obtain ⟨h1, h2⟩ := snd_ok h
  rw [Bool.and_eq_true] at h2
  refine ⟨h1, h2.1, ?_⟩
  have := h2.2
  unfold cntB at this
  simpa using this
set_option maxRecDepth 100000 in
set_option maxHeartbeats 8000000 in
theorem Rcounted_any (A1 A2 A3 : Option Addr) (c1 c2 c3 : Nat) (xs ys : List Int) (rs : List Bool) (T n : Int) (w : World) (h : InMem w A1 A2 A3 xs ys rs) :
    Calls Try.prog 52 #[.agg #[.slice A1 xs.length c1, .slice A2 ys.length c2, .slice A3 rs.length c3], .int .i64 T, .int .i64 n] w fun e w' => e = .returned (.int .i64 (ctdS xs ys rs T n)) ∧ Below w.heap.size w w' := by
  have HM := Lib.hid h
  clear h
  obtain ⟨z, hz⟩ : ∃ z, sndS xs ys rs (tgtB T) = z := ⟨_, rfl⟩
  rw [ctd_of, hz]
  have HZ := Lib.hid hz
  clear hz
  by_cases h0 : z = 0
  · rw [if_neg (by simpa using h0)]
    subst h0
    rcases (by omega : n < 0 ∨ (0 ≤ n ∧ n ≤ 1000) ∨ (0 ≤ n ∧ 1000 < n)) with h | ⟨h, h'⟩ | ⟨h, h'⟩
    · rw [show cntB n = false by unfold cntB; simp; omega]
      go_enter Try.func52, Try.ntmps52
      go_wp2_with fail
      refine (asked_any A1 A2 A3 c1 c2 c3 xs ys rs T _ (HM.out.ext ((Below.refl _ _).alloc (Nat.le_refl _) _))).mono ?_
      rw [HZ.out]
      rintro e w1 ⟨rfl, hb1⟩
      go_wp2_with fail
      go_ret
      exact ⟨rfl, (by repeat' (first | with_reducible exact Below.refl _ _ | with_reducible assumption | with_reducible apply Below.drew | with_reducible apply below_drewN | with_reducible apply Below.alloc | with_reducible apply Below.setCell | (with_reducible refine Below.trans ?_ (Below.mono (by assumption) ?_)) | (simp; done) | (simp; omega) | omega | with_reducible apply le_size_alloc | with_reducible apply le_size_drewN | with_reducible apply le_size_drew | with_reducible apply le_size_setCell | refine Nat.le_trans ?_ (Below.size (by assumption))))⟩
    · rw [show cntB n = true by unfold cntB; simp; omega]
      have n1 : ¬ n < 0 := by omega
      have n2 : ¬ 1000 < n := by omega
      clear h h'
      go_enter Try.func52, Try.ntmps52
      go_wp2_with fail
      refine (asked_any A1 A2 A3 c1 c2 c3 xs ys rs T _ (HM.out.ext ((Below.refl _ _).alloc (Nat.le_refl _) _))).mono ?_
      rw [HZ.out]
      rintro e w1 ⟨rfl, hb1⟩
      go_wp2_with fail
      go_ret
      exact ⟨rfl, (by repeat' (first | with_reducible exact Below.refl _ _ | with_reducible assumption | with_reducible apply Below.drew | with_reducible apply below_drewN | with_reducible apply Below.alloc | with_reducible apply Below.setCell | (with_reducible refine Below.trans ?_ (Below.mono (by assumption) ?_)) | (simp; done) | (simp; omega) | omega | with_reducible apply le_size_alloc | with_reducible apply le_size_drewN | with_reducible apply le_size_drew | with_reducible apply le_size_setCell | refine Nat.le_trans ?_ (Below.size (by assumption))))⟩
    · rw [show cntB n = false by unfold cntB; simp; omega]
      have n1 : ¬ n < 0 := by omega
      clear h
      go_enter Try.func52, Try.ntmps52
      go_wp2_with fail
      refine (asked_any A1 A2 A3 c1 c2 c3 xs ys rs T _ (HM.out.ext ((Below.refl _ _).alloc (Nat.le_refl _) _))).mono ?_
      rw [HZ.out]
      rintro e w1 ⟨rfl, hb1⟩
      go_wp2_with fail
      go_ret
      exact ⟨rfl, (by repeat' (first | with_reducible exact Below.refl _ _ | with_reducible assumption | with_reducible apply Below.drew | with_reducible apply below_drewN | with_reducible apply Below.alloc | with_reducible apply Below.setCell | (with_reducible refine Below.trans ?_ (Below.mono (by assumption) ?_)) | (simp; done) | (simp; omega) | omega | with_reducible apply le_size_alloc | with_reducible apply le_size_drewN | with_reducible apply le_size_drew | with_reducible apply le_size_setCell | refine Nat.le_trans ?_ (Below.size (by assumption))))⟩
  · rw [if_pos h0]
    have hzb : (z == 0) = false := by simpa using h0
    go_enter Try.func52, Try.ntmps52
    go_wp2_with fail
    refine (asked_any A1 A2 A3 c1 c2 c3 xs ys rs T _ (HM.out.ext ((Below.refl _ _).alloc (Nat.le_refl _) _))).mono ?_
    rw [HZ.out]
    rintro e w1 ⟨rfl, hb1⟩
    go_wp2_with fail
    go_ret
    exact ⟨rfl, (by repeat' (first | with_reducible exact Below.refl _ _ | with_reducible assumption | with_reducible apply Below.drew | with_reducible apply below_drewN | with_reducible apply Below.alloc | with_reducible apply Below.setCell | (with_reducible refine Below.trans ?_ (Below.mono (by assumption) ?_)) | (simp; done) | (simp; omega) | omega | with_reducible apply le_size_alloc | with_reducible apply le_size_drewN | with_reducible apply le_size_drew | with_reducible apply le_size_setCell | refine Nat.le_trans ?_ (Below.size (by assumption))))⟩

/-- A sweep, or its error. -/
def swpS (T n : Int) (xs ys : List Int) (rs : List Bool) : SwR × Int := if ctdS xs ys rs T n ≠ 0 then (⟨[], [], [], [], []⟩, ctdS xs ys rs T n) else (swS T n.toNat xs ys rs, 0)
def SwpQ (R : SwR × Int) (w : World) (e : Ending) (w' : World) : Prop :=
  ∃ B1 B2 B3 d1 d2 d3 X xc, e = .returned (.tuple #[.agg #[.slice B1 R.1.xs.length d1, .slice B2 R.1.ys.length d2, .slice B3 R.1.rs.length d3], .slice X R.1.vic.length xc, .int .i64 R.2]) ∧ InMem w' B1 B2 B3 R.1.xs R.1.ys R.1.rs ∧ Sl w' (.int .i64) X R.1.vic ∧ Below w.heap.size w w'

set_option maxRecDepth 100000 in
set_option maxHeartbeats 8000000 in
theorem RSweep_any (A1 A2 A3 : Option Addr) (c1 c2 c3 : Nat) (xs ys : List Int) (rs : List Bool) (T n : Int) (w : World) (h : InMem w A1 A2 A3 xs ys rs) :
    Calls Try.prog 19 #[.agg #[.slice A1 xs.length c1, .slice A2 ys.length c2, .slice A3 rs.length c3], .int .i64 T, .int .i64 n] w (SwpQ (swpS T n xs ys rs) w) := by
  have HM := Lib.hid h
  clear h
  obtain ⟨X, hX⟩ : ∃ X, (w.alloc (.cells #[.slice A1 xs.length c1, .slice A2 ys.length c2, .slice A3 rs.length c3] 25)).alloc (.cells #[.slice none 0 0, .slice none 0 0, .slice none 0 0] 25) = X := ⟨_, rfl⟩
  have HK1 : Hid (Blk X w.heap.size 25 #[.slice A1 xs.length c1, .slice A2 ys.length c2, .slice A3 rs.length c3]) := by show Blk _ _ _ _; rw [← hX]; exact (Blk.new_ rfl rfl).alloc_ _
  have HK2 : Hid (Blk X (w.heap.size + 1) 25 #[.slice none 0 0, .slice none 0 0, .slice none 0 0]) := by show Blk _ _ _ _; rw [← hX]; exact Blk.new_ (by simp) rfl
  have HBX : Hid (Below w.heap.size w X) := by show Below _ _ _; rw [← hX]; exact ((Below.refl _ _).alloc (Nat.le_refl _) _).alloc (by simp) _
  have szX : X.heap.size = w.heap.size + 2 := by rw [← hX]; simp
  obtain ⟨z, hz⟩ : ∃ z, ctdS xs ys rs T n = z := ⟨_, rfl⟩
  have HZ := Lib.hid hz
  by_cases h0 : z = 0
  · subst h0
    obtain ⟨hc, ht, n0, n1⟩ := ctd_ok hz
    obtain ⟨m, rfl⟩ : ∃ m : Nat, n = m := ⟨n.toNat, by omega⟩
    obtain ⟨⟨us, vs, ss, vic, mov⟩, hR⟩ : ∃ R, swS T m xs ys rs = R := ⟨_, rfl⟩
    have HE : Hid (swpS T m xs ys rs = (⟨us, vs, ss, vic, mov⟩, 0)) := by show _ = _; unfold swpS; rw [hz, if_neg (by simp), Int.toNat_natCast, hR]
    have hcs := sw_chk (T := T) m xs ys rs hc
    rw [hR] at hcs
    dsimp only at hcs
    have HR := Lib.hid hR
    rw [HE.out]
    (try dsimp only)
    clear hz hR
    have p0 : X.cell? ⟨w.heap.size, 0, none⟩ = some (.slice A1 xs.length c1) := (HK1.out.cell_ 0).trans (by simp)
    have p1 : X.cell? ⟨w.heap.size, 1, none⟩ = some (.slice A2 ys.length c2) := (HK1.out.cell_ 1).trans (by simp)
    have p2 : X.cell? ⟨w.heap.size, 2, none⟩ = some (.slice A3 rs.length c3) := (HK1.out.cell_ 2).trans (by simp)
    go_enter Try.func19, Try.ntmps19
    go_wp2_with fail
    (try rw [hX])
    refine (Rcounted_any A1 A2 A3 c1 c2 c3 xs ys rs T m X (HM.out.ext HBX.out)).mono ?_
    rw [HZ.out]
    rintro e x1 ⟨rfl, h1⟩
    clear p0 p1 p2 hX szX
    have HK1_ := Lib.hid (HK1.out.below_ h1 HK1.out.lt)
    have HK2_ := Lib.hid (HK2.out.below_ h1 HK2.out.lt)
    have HBX_ := Lib.hid (HBX.out.trans (h1.mono HBX.out.size))
    clear HK1 HK2 HBX h1
    obtain ⟨HK1, _⟩ := And.intro HK1_ trivial
    clear HK1_
    obtain ⟨HK2, _⟩ := And.intro HK2_ trivial
    clear HK2_
    obtain ⟨HBX, _⟩ := And.intro HBX_ trivial
    clear HBX_
    have p0 : x1.cell? ⟨w.heap.size, 0, none⟩ = some (.slice A1 xs.length c1) := (HK1.out.cell_ 0).trans (by simp)
    have p1 : x1.cell? ⟨w.heap.size, 1, none⟩ = some (.slice A2 ys.length c2) := (HK1.out.cell_ 1).trans (by simp)
    have p2 : x1.cell? ⟨w.heap.size, 2, none⟩ = some (.slice A3 rs.length c3) := (HK1.out.cell_ 2).trans (by simp)
    go_wp2_with fail
    refine (Rsweep_any A1 A2 A3 c1 c2 c3 xs ys rs T m x1 (HM.out.ext HBX.out) hc ht (by omega)).mono ?_
    unfold RwQ
    rw [HR.out]
    rintro e x2 ⟨B1, B2, B3, d1, d2, d3, Q, qc, Y, yc, rfl, hm2, hn2, hq2, hy2, gq2, gy2, h2⟩
    dsimp only at hm2 hn2 hq2 hy2 ⊢
    clear p0 p1 p2
    have hlt1 := HK2.out.lt
    have hs2 := h2.size
    have HM2 := Lib.hid hm2; have HN2 := Lib.hid (hn2.neB hlt1 us vs ss); have HQ2 := Lib.hid hq2
    clear hm2 hn2 hq2 hy2
    have HK1_ := Lib.hid (HK1.out.below_ h2 HK1.out.lt)
    have HK2_ := Lib.hid (HK2.out.below_ h2 HK2.out.lt)
    have HBX_ := Lib.hid (HBX.out.trans (h2.mono HBX.out.size))
    clear HK1 HK2 HBX h2
    obtain ⟨HK1, _⟩ := And.intro HK1_ trivial
    clear HK1_
    obtain ⟨HK2, _⟩ := And.intro HK2_ trivial
    clear HK2_
    obtain ⟨HBX, _⟩ := And.intro HBX_ trivial
    clear HBX_
    have hlt2 := HK2.out.lt
    have y0 : x2.cell? ⟨w.heap.size + 1, 0, none⟩ = some (.slice none 0 0) := (HK2.out.cell_ 0).trans (by simp)
    have y1 : x2.cell? ⟨w.heap.size + 1, 1, none⟩ = some (.slice none 0 0) := (HK2.out.cell_ 1).trans (by simp)
    have y2 : x2.cell? ⟨w.heap.size + 1, 2, none⟩ = some (.slice none 0 0) := (HK2.out.cell_ 2).trans (by simp)
    have g0 := HK2.out.frozen_ 0
    have g1 := HK2.out.frozen_ 1
    have g2 := HK2.out.frozen_ 2
    have nb1 : w.heap.size + 1 ≠ x2.heap.size := by omega
    have nb2 : x2.heap.size ≠ w.heap.size + 1 := by omega
    go_wp2_with fail
    obtain ⟨U, hU⟩ : ∃ U, (((x2.setCell ⟨w.heap.size + 1, 0, none⟩ (.slice B1 us.length d1)).setCell ⟨w.heap.size + 1, 1, none⟩ (.slice B2 vs.length d2)).setCell ⟨w.heap.size + 1, 2, none⟩ (.slice B3 ss.length d3)).alloc (.cells #[.slice B1 us.length d1, .slice B2 vs.length d2, .slice B3 ss.length d3] 25) = U := ⟨_, rfl⟩
    have KU : Blk U (w.heap.size + 1) 25 #[.slice B1 us.length d1, .slice B2 vs.length d2, .slice B3 ss.length d3] := by
      rw [← hU]
      exact Blk.alloc_ (by simpa using ((HK2.out.set_ 0 (.slice B1 us.length d1)).set_ 1 (.slice B2 vs.length d2)).set_ 2 (.slice B3 ss.length d3)) _
    have MU : InMem U B1 B2 B3 us vs ss := by
      rw [← hU]
      exact (((HM2.out.set_ HN2.out _ _).set_ HN2.out _ _).set_ HN2.out _ _).ext ((Below.refl _ _).alloc (Nat.le_refl _) _)
    have SU : Sl U (.int .i64) Q vic := by
      rw [← hU]
      exact (((HQ2.out.far_ (fun g e => by have := gq2 g e; omega) _ _).far_ (fun g e => by have := gq2 g e; omega) _ _).far_ (fun g e => by have := gq2 g e; omega) _ _).ext ((Below.refl _ _).alloc (Nat.le_refl _) _)
    have BU : Below w.heap.size w U := by
      rw [← hU]
      have hbx := HBX.out
      exact (by repeat' (first | with_reducible exact Below.refl _ _ | with_reducible assumption | with_reducible apply Below.drew | with_reducible apply below_drewN | with_reducible apply Below.alloc | with_reducible apply Below.setCell | (with_reducible refine Below.trans ?_ (Below.mono (by assumption) ?_)) | (simp; done) | (simp; omega) | omega | with_reducible apply le_size_alloc | with_reducible apply le_size_drewN | with_reducible apply le_size_drew | with_reducible apply le_size_setCell | refine Nat.le_trans ?_ (Below.size (by assumption))))
    (try rw [hU])
    clear hU
    have u0 : U.cell? ⟨w.heap.size + 1, 0, none⟩ = some (.slice B1 us.length d1) := (KU.cell_ 0).trans (by simp)
    have u1 : U.cell? ⟨w.heap.size + 1, 1, none⟩ = some (.slice B2 vs.length d2) := (KU.cell_ 1).trans (by simp)
    have u2 : U.cell? ⟨w.heap.size + 1, 2, none⟩ = some (.slice B3 ss.length d3) := (KU.cell_ 2).trans (by simp)
    refine bodyPost_ret (v := .tuple #[.agg #[.slice B1 us.length d1, .slice B2 vs.length d2, .slice B3 ss.length d3], .slice Q vic.length qc, .int .i64 0]) (by simp [results, Try.results19, go_sem, u0, u1, u2]) rfl ?_
    exact ⟨B1, B2, B3, d1, d2, d3, Q, qc, rfl, MU, SU, BU⟩
  · have HE : Hid (swpS T n xs ys rs = (⟨[], [], [], [], []⟩, z)) := by show _ = _; unfold swpS; rw [hz, if_pos h0]
    rw [HE.out]
    (try dsimp only)
    have nz : (z != 0) = true := by simpa using h0
    clear hz
    have p0 : X.cell? ⟨w.heap.size, 0, none⟩ = some (.slice A1 xs.length c1) := (HK1.out.cell_ 0).trans (by simp)
    have p1 : X.cell? ⟨w.heap.size, 1, none⟩ = some (.slice A2 ys.length c2) := (HK1.out.cell_ 1).trans (by simp)
    have p2 : X.cell? ⟨w.heap.size, 2, none⟩ = some (.slice A3 rs.length c3) := (HK1.out.cell_ 2).trans (by simp)
    go_enter Try.func19, Try.ntmps19
    go_wp2_with fail
    (try rw [hX])
    refine (Rcounted_any A1 A2 A3 c1 c2 c3 xs ys rs T n X (HM.out.ext HBX.out)).mono ?_
    rw [HZ.out]
    rintro e x1 ⟨rfl, h1⟩
    clear p0 p1 p2 hX szX
    have HK2_ := Lib.hid (HK2.out.below_ h1 HK2.out.lt)
    have HBX_ := Lib.hid (HBX.out.trans (h1.mono HBX.out.size))
    clear HK2 HBX h1
    obtain ⟨HK2, _⟩ := And.intro HK2_ trivial
    clear HK2_
    obtain ⟨HBX, _⟩ := And.intro HBX_ trivial
    clear HBX_
    have y0 : x1.cell? ⟨w.heap.size + 1, 0, none⟩ = some (.slice none 0 0) := (HK2.out.cell_ 0).trans (by simp)
    have y1 : x1.cell? ⟨w.heap.size + 1, 1, none⟩ = some (.slice none 0 0) := (HK2.out.cell_ 1).trans (by simp)
    have y2 : x1.cell? ⟨w.heap.size + 1, 2, none⟩ = some (.slice none 0 0) := (HK2.out.cell_ 2).trans (by simp)
    have g0 := HK2.out.frozen_ 0
    have g1 := HK2.out.frozen_ 1
    have g2 := HK2.out.frozen_ 2
    go_wp2_with fail
    refine bodyPost_ret (v := .tuple #[.agg #[.slice none 0 0, .slice none 0 0, .slice none 0 0], .slice none 0 0, .int .i64 z]) (by simp [results, Try.results19, go_sem, y0, y1, y2]) rfl ?_
    exact ⟨none, none, none, 0, 0, 0, none, 0, rfl, inMem_none _, Sl.nil, ((HBX.out.setCell (p := ⟨w.heap.size + 1, 0, none⟩) (by simp) _).setCell (p := ⟨w.heap.size + 1, 1, none⟩) (by simp) _).setCell (p := ⟨w.heap.size + 1, 2, none⟩) (by simp) _⟩

theorem full_len2 {T : Int} {xs ys : List Int} {rs : List Bool} (hc : lruChk xs ys rs = 0) : (full T xs ys rs []).length ≤ 1024 := by
  have h := evs_len T (phi xs ys rs + 1) xs ys rs []
  have hv := valid_of_chk hc
  have h1 := hv.len
  have h3 := hv.hi
  have h2 : refC rs ys ≤ ys.length := List.countP_le_length
  unfold full
  unfold phi at *
  omega
theorem vic_sw {T : Int} {xs ys : List Int} {rs : List Bool} (hc : lruChk xs ys rs = 0) : (swS T 1024 xs ys rs).vic = vicP (full T xs ys rs []) := by
  rw [← (runE_sw (T := T) hc 1024).2.2.2.2, List.take_of_length_le (full_len2 hc)]
set_option maxRecDepth 100000 in
set_option maxHeartbeats 8000000 in
theorem RVictims_any (A1 A2 A3 : Option Addr) (c1 c2 c3 : Nat) (xs ys : List Int) (rs : List Bool) (T : Int) (w : World) (h : InMem w A1 A2 A3 xs ys rs) :
    Calls Try.prog 24 #[.agg #[.slice A1 xs.length c1, .slice A2 ys.length c2, .slice A3 rs.length c3], .int .i64 T] w (VPost (vicS T xs ys rs) w) := by
  have HM := Lib.hid h
  clear h
  obtain ⟨X, hX⟩ : ∃ X, w.alloc (.cells #[.slice A1 xs.length c1, .slice A2 ys.length c2, .slice A3 rs.length c3] 25) = X := ⟨_, rfl⟩
  have HK1 : Hid (Blk X w.heap.size 25 #[.slice A1 xs.length c1, .slice A2 ys.length c2, .slice A3 rs.length c3]) := by show Blk _ _ _ _; rw [← hX]; exact Blk.new_ rfl rfl
  have HBX : Hid (Below w.heap.size w X) := by show Below _ _ _; rw [← hX]; exact (Below.refl _ _).alloc (Nat.le_refl _) _
  have szX : X.heap.size = w.heap.size + 1 := by rw [← hX]; simp
  obtain ⟨z, hz⟩ : ∃ z, sndS xs ys rs (tgtB T) = z := ⟨_, rfl⟩
  have HZ := Lib.hid hz
  by_cases h0 : z = 0
  · subst h0
    obtain ⟨hc, ht⟩ := snd_ok hz
    obtain ⟨⟨us, vs, ss, vic, mov⟩, hR⟩ : ∃ R, swS T 1024 xs ys rs = R := ⟨_, rfl⟩
    have HE : Hid (vicS T xs ys rs = (vic, 0)) := by show _ = _; unfold vicS; rw [hz, if_neg (by simp), ← vic_sw hc, hR]
    have HR := Lib.hid hR
    rw [HE.out]
    clear hz hR
    have p0 : X.cell? ⟨w.heap.size, 0, none⟩ = some (.slice A1 xs.length c1) := (HK1.out.cell_ 0).trans (by simp)
    have p1 : X.cell? ⟨w.heap.size, 1, none⟩ = some (.slice A2 ys.length c2) := (HK1.out.cell_ 1).trans (by simp)
    have p2 : X.cell? ⟨w.heap.size, 2, none⟩ = some (.slice A3 rs.length c3) := (HK1.out.cell_ 2).trans (by simp)
    go_enter Try.func24, Try.ntmps24
    go_wp2_with fail
    (try rw [hX])
    refine (asked_any A1 A2 A3 c1 c2 c3 xs ys rs T X (HM.out.ext HBX.out)).mono ?_
    rw [HZ.out]
    rintro e x1 ⟨rfl, h1⟩
    clear p0 p1 p2 hX szX
    have HK1_ := Lib.hid (HK1.out.below_ h1 HK1.out.lt)
    have HBX_ := Lib.hid (HBX.out.trans (h1.mono HBX.out.size))
    clear HK1 HBX h1
    obtain ⟨HK1, _⟩ := And.intro HK1_ trivial
    clear HK1_
    obtain ⟨HBX, _⟩ := And.intro HBX_ trivial
    clear HBX_
    have p0 : x1.cell? ⟨w.heap.size, 0, none⟩ = some (.slice A1 xs.length c1) := (HK1.out.cell_ 0).trans (by simp)
    have p1 : x1.cell? ⟨w.heap.size, 1, none⟩ = some (.slice A2 ys.length c2) := (HK1.out.cell_ 1).trans (by simp)
    have p2 : x1.cell? ⟨w.heap.size, 2, none⟩ = some (.slice A3 rs.length c3) := (HK1.out.cell_ 2).trans (by simp)
    go_wp2_with fail
    refine (Rsweep_any A1 A2 A3 c1 c2 c3 xs ys rs T 1024 x1 (HM.out.ext HBX.out) hc ht (by omega)).mono ?_
    unfold RwQ
    rw [HR.out]
    rintro e x2 ⟨B1, B2, B3, d1, d2, d3, Q, qc, Y, yc, rfl, hm2, hn2, hq2, hy2, gq2, gy2, h2⟩
    dsimp only at hm2 hn2 hq2 hy2 ⊢
    have HQ2 := Lib.hid hq2
    have HB2 := Lib.hid (HBX.out.trans (h2.mono HBX.out.size))
    clear hm2 hn2 hq2 hy2 h2 p0 p1 p2
    go_wp2_with fail
    refine bodyPost_ret (v := .tuple #[.slice Q vic.length qc, .int .i64 0]) (by simp [results, Try.results24, go_sem]) rfl ?_
    exact ⟨Q, qc, rfl, HQ2.out.ext ((Below.refl _ _).alloc (Nat.le_refl _) _), HB2.out.alloc (by have := HB2.out.size; omega) _⟩
  · have HE : Hid (vicS T xs ys rs = ([], z)) := by show _ = _; unfold vicS; rw [hz, if_pos h0]
    rw [HE.out]
    have nz : (z != 0) = true := by simpa using h0
    clear hz
    have p0 : X.cell? ⟨w.heap.size, 0, none⟩ = some (.slice A1 xs.length c1) := (HK1.out.cell_ 0).trans (by simp)
    have p1 : X.cell? ⟨w.heap.size, 1, none⟩ = some (.slice A2 ys.length c2) := (HK1.out.cell_ 1).trans (by simp)
    have p2 : X.cell? ⟨w.heap.size, 2, none⟩ = some (.slice A3 rs.length c3) := (HK1.out.cell_ 2).trans (by simp)
    go_enter Try.func24, Try.ntmps24
    go_wp2_with fail
    (try rw [hX])
    refine (asked_any A1 A2 A3 c1 c2 c3 xs ys rs T X (HM.out.ext HBX.out)).mono ?_
    rw [HZ.out]
    rintro e x1 ⟨rfl, h1⟩
    clear p0 p1 p2 hX szX
    go_wp2_with fail
    refine bodyPost_ret (v := .tuple #[.slice none 0 0, .int .i64 z]) (by simp [results, Try.results24, go_sem]) rfl ?_
    exact ⟨none, 0, rfl, Sl.nil, HBX.out.trans (h1.mono HBX.out.size)⟩

set_option maxRecDepth 100000 in
set_option maxHeartbeats 8000000 in
theorem RFirst_any (A1 A2 A3 : Option Addr) (c1 c2 c3 : Nat) (xs ys : List Int) (rs : List Bool) (T : Int) (w : World) (h : InMem w A1 A2 A3 xs ys rs) :
    Calls Try.prog 22 #[.agg #[.slice A1 xs.length c1, .slice A2 ys.length c2, .slice A3 rs.length c3], .int .i64 T] w (FPost (firS T xs ys rs) w) := by
  have HM := Lib.hid h
  clear h
  obtain ⟨X, hX⟩ : ∃ X, w.alloc (.cells #[.slice A1 xs.length c1, .slice A2 ys.length c2, .slice A3 rs.length c3] 25) = X := ⟨_, rfl⟩
  have HK1 : Hid (Blk X w.heap.size 25 #[.slice A1 xs.length c1, .slice A2 ys.length c2, .slice A3 rs.length c3]) := by show Blk _ _ _ _; rw [← hX]; exact Blk.new_ rfl rfl
  have HBX : Hid (Below w.heap.size w X) := by show Below _ _ _; rw [← hX]; exact (Below.refl _ _).alloc (Nat.le_refl _) _
  have szX : X.heap.size = w.heap.size + 1 := by rw [← hX]; simp
  obtain ⟨z, hz⟩ : ∃ z, sndS xs ys rs (tgtB T) = z := ⟨_, rfl⟩
  have HZ := Lib.hid hz
  by_cases h0 : z = 0
  · subst h0
    obtain ⟨hc, ht⟩ := snd_ok hz
    obtain ⟨F, hF⟩ : ∃ F, fstP (full T xs ys rs []) 0 = F := ⟨_, rfl⟩
    have HE : Hid (firS T xs ys rs = F) := by show _ = _; unfold firS; rw [hz, if_neg (by simp), hF]
    have HF0 : Hid (∃ mv, fstP (full T xs ys rs mv) (0 : Nat) = F) := ⟨[], hF⟩
    obtain ⟨P0, hP0⟩ : ∃ P0, phi xs ys rs = P0 := ⟨_, rfl⟩
    have hPh : 0 + phi xs ys rs ≤ P0 := by omega
    have hPl : P0 ≤ 1024 := by
      rw [← hP0]
      have hv := valid_of_chk hc
      have h1 := hv.len
      have h3 := hv.hi
      have h2 : refC rs ys ≤ ys.length := List.countP_le_length
      unfold phi
      omega
    have HC0 := Lib.hid hc; have HPH0 := Lib.hid hPh
    rw [HE.out]
    clear hz hF hP0 hPh hc
    have p0 : X.cell? ⟨w.heap.size, 0, none⟩ = some (.slice A1 xs.length c1) := (HK1.out.cell_ 0).trans (by simp)
    have p1 : X.cell? ⟨w.heap.size, 1, none⟩ = some (.slice A2 ys.length c2) := (HK1.out.cell_ 1).trans (by simp)
    have p2 : X.cell? ⟨w.heap.size, 2, none⟩ = some (.slice A3 rs.length c3) := (HK1.out.cell_ 2).trans (by simp)
    go_enter Try.func22, Try.ntmps22
    go_wp2_with fail
    (try rw [hX])
    refine (asked_any A1 A2 A3 c1 c2 c3 xs ys rs T X (HM.out.ext HBX.out)).mono ?_
    rw [HZ.out]
    rintro e x1 ⟨rfl, h1⟩
    clear p0 p1 p2 hX
    have HLV0 : Hid (LV x1 w.heap.size A1 A2 A3 c1 c2 c3 xs ys rs) := ⟨HK1.out.below_ h1 HK1.out.lt, HM.out.ext (HBX.out.trans (h1.mono HBX.out.size)), HM.out.neZ fun k e => by omega⟩
    have HBX_ := Lib.hid (HBX.out.trans (h1.mono HBX.out.size))
    clear HBX h1
    obtain ⟨HBX, _⟩ := And.intro HBX_ trivial
    clear HBX_
    clear HK1 HM
    go_wp2_with fail
    go_loopw [8] (fun i wr => ∃ (k : Nat) (us vs : List Int) (ss : List Bool) (A1 A2 A3 : Option Addr) (c1 c2 c3 : Nat), i = .int .i64 k ∧ Hid (LV wr w.heap.size A1 A2 A3 c1 c2 c3 us vs ss) ∧ Hid (Below w.heap.size w wr) ∧ Hid (lruChk us vs ss = 0) ∧ Hid (k + phi us vs ss ≤ P0) ∧ Hid (∃ mv, fstP (full T us vs ss mv) (k : Nat) = F)) (fun i _ => P0 + 1 - (intOf i).toNat)
    case atStart => exact ⟨0, xs, ys, rs, A1, A2, A3, c1, c2, c3, rfl, HLV0, HBX, HC0, HPH0, HF0⟩
    case round =>
      clear HLV0 HBX HC0 HPH0 HF0
      obtain ⟨k, us, vs, ss, A1, A2, A3, c1, c2, c3, rfl, HLV, HB, HC, HPH, HFF⟩ := hrel
      have p0 : wr.cell? ⟨w.heap.size, 0, none⟩ = some (.slice A1 us.length c1) := (HLV.out.blk.cell_ 0).trans (by simp)
      have p1 : wr.cell? ⟨w.heap.size, 1, none⟩ = some (.slice A2 vs.length c2) := (HLV.out.blk.cell_ 1).trans (by simp)
      have p2 : wr.cell? ⟨w.heap.size, 2, none⟩ = some (.slice A3 ss.length c3) := (HLV.out.blk.cell_ 2).trans (by simp)
      have zr := HLV.out.blk.lt
      have zw := HB.out.size
      obtain ⟨⟨wh, f, ps, qs, ws⟩, hS⟩ : ∃ S, stepS T us vs ss = S := ⟨_, rfl⟩
      have HF := Lib.hid (full_nxt (T := T) HC.out ht)
      have hone := step_one (T := T) HC.out
      have hnx := nxt_of_step (T := T) (us := us) (vs := vs) (ss := ss)
      have ok := nxt_ok (T := T) HC.out
      obtain ⟨mv, hfp⟩ := HFF.out
      rw [full_eq mv HC.out] at hfp
      rw [hS] at HF hone hnx
      dsimp only at HF hone hnx
      have hph := HPH.out
      have hwk : IntKind.i64.wrap (k : Int) = k := by rw [IntKind.wrap_i64]; omega
      have hwk1 : IntKind.i64.wrap ((k : Int) + 1) = k + 1 := by rw [IntKind.wrap_i64]; omega
      have wlo := hone.lo
      have whi := hone.hi
      rcases (by omega : wh = 0 ∨ (wh = 1 ∨ wh = 2) ∨ wh = 3) with rfl | hw12 | rfl
      · have e1 := (hnx.2 (by omega)).1
        rw [if_pos e1] at hfp
        have HFE : Hid (F = (0, 0, 6)) := by show _ = _; rw [← hfp]; rfl
        clear hfp ok hnx hone hS HPH HFF
        go_wp2_with fail
        refine (RStep_any A1 A2 A3 c1 c2 c3 us vs ss T _ HLV.out.mem).mono ?_
        unfold SQ
        rw [HF.out]
        rintro e x4 ⟨E1, E2, E3, e1, e2, e3, rfl, hm4, hn4, h4⟩
        dsimp only at hm4 hn4 ⊢
        have hs4 := h4.size
        have HLV4 := Lib.hid (HLV.out.ext h4)
        have HB4 := Lib.hid (HB.out.trans (h4.mono HB.out.size))
        have HM4 := Lib.hid hm4
        have HN4 := Lib.hid (hn4.neB zr ps qs ws)
        clear hm4 hn4 h4 p0 p1 p2 HLV HB HF
        go_wp2_with fail
        refine bodyPost_ret (v := .tuple #[.int .i64 0, .int .i64 0, .int .i64 6]) (by simp [results, Try.results22, go_sem]) rfl ?_
        rw [HFE.out]
        exact ⟨rfl, HB4.out.alloc (by have := HB4.out.size; omega) _⟩
      · have hw0 : wh ≠ 0 := by omega
        have hw3 : wh ≠ 3 := by omega
        have ew0 : (wh == 0) = false := by simpa using hw0
        have ew3 : (wh == 3) = false := by simpa using hw3
        obtain ⟨n1, n2, n3, n4, n5⟩ := hnx.2 hw3
        rw [if_neg (by rw [n1]; exact hw0)] at hfp
        unfold fstP at hfp
        rw [if_neg (by show (nxtS T us vs ss).1 ≠ 3; rw [n1]; exact hw3)] at hfp
        rw [show (nxtS T us vs ss).2.2.1 = nxX T us vs ss from rfl, show (nxtS T us vs ss).2.2.2.1 = nxY T us vs ss from rfl, show (nxtS T us vs ss).2.2.2.2 = nxR T us vs ss from rfl, n3, n4, n5] at hfp
        have hnc := ok.chk
        have hlow := ok.low (by rw [n1]; exact hw0)
        rw [show (nxtS T us vs ss).2.2.1 = nxX T us vs ss from rfl, show (nxtS T us vs ss).2.2.2.1 = nxY T us vs ss from rfl, show (nxtS T us vs ss).2.2.2.2 = nxR T us vs ss from rfl, n3, n4, n5] at hnc hlow
        have HF2 : Hid (∃ mv, fstP (full T ps qs ws mv) ((k + 1 : Nat) : Int) = F) := ⟨_, by rw [show ((k + 1 : Nat) : Int) = (k : Int) + 1 by omega]; exact hfp⟩
        have HC2 := Lib.hid hnc
        have HP2 : Hid (k + 1 + phi ps qs ws ≤ P0) := by show _ ≤ _; omega
        clear hfp ok hnx hone hS hnc hlow n1 n2 n3 n4 n5 HPH HFF hw12
        go_wp2_with fail
        refine (RStep_any A1 A2 A3 c1 c2 c3 us vs ss T _ HLV.out.mem).mono ?_
        unfold SQ
        rw [HF.out]
        rintro e x4 ⟨E1, E2, E3, e1, e2, e3, rfl, hm4, hn4, h4⟩
        dsimp only at hm4 hn4 ⊢
        have hs4 := h4.size
        have HLV4 := Lib.hid (HLV.out.ext h4)
        have HB4 := Lib.hid (HB.out.trans (h4.mono HB.out.size))
        have HM4 := Lib.hid hm4
        have HN4 := Lib.hid (hn4.neB zr ps qs ws)
        clear hm4 hn4 h4 p0 p1 p2 HLV HB HF
        have f0 := HLV4.out.blk.frozen_ 0
        have f1 := HLV4.out.blk.frozen_ 1
        have f2 := HLV4.out.blk.frozen_ 2
        have q0 : x4.cell? ⟨w.heap.size, 0, none⟩ = some (.slice A1 us.length c1) := (HLV4.out.blk.cell_ 0).trans (by simp)
        have q1 : x4.cell? ⟨w.heap.size, 1, none⟩ = some (.slice A2 vs.length c2) := (HLV4.out.blk.cell_ 1).trans (by simp)
        have q2 : x4.cell? ⟨w.heap.size, 2, none⟩ = some (.slice A3 ss.length c3) := (HLV4.out.blk.cell_ 2).trans (by simp)
        have zr4 := HLV4.out.blk.lt
        have nb1 : w.heap.size ≠ x4.heap.size := by omega
        have nb2 : x4.heap.size ≠ w.heap.size := by omega
        go_wp2_with fail
        obtain ⟨W, hW⟩ : ∃ W, (((x4.setCell ⟨w.heap.size, 0, none⟩ (.slice E1 ps.length e1)).setCell ⟨w.heap.size, 1, none⟩ (.slice E2 qs.length e2)).setCell ⟨w.heap.size, 2, none⟩ (.slice E3 ws.length e3)) = W := ⟨_, rfl⟩
        have KW := HLV4.out.put e1 e2 e3 HM4.out HN4.out hW
        have BW : Below w.heap.size w W := by rw [← hW]; exact ((HB4.out.setCell (p := ⟨w.heap.size, 0, none⟩) (Nat.le_refl _) _).setCell (p := ⟨w.heap.size, 1, none⟩) (Nat.le_refl _) _).setCell (p := ⟨w.heap.size, 2, none⟩) (Nat.le_refl _) _
        obtain ⟨U, hU⟩ : ∃ U, W.alloc (.cells #[.slice E1 ps.length e1, .slice E2 qs.length e2, .slice E3 ws.length e3] 25) = U := ⟨_, rfl⟩
        have hbU : Below W.heap.size W U := by rw [← hU]; exact (Below.refl _ _).alloc (Nat.le_refl _) _
        have KU := Lib.hid (KW.ext hbU)
        have BU := Lib.hid (BW.trans (hbU.mono BW.size))
        rw [hW, hU]
        clear hW hU hbU KW BW HLV4 HB4 HM4 HN4 q0 q1 q2 f0 f1 f2
        go_roundw
        case rel => exact ⟨k + 1, ps, qs, ws, E1, E2, E3, e1, e2, e3, by go_num, KU, BU, HC2, HP2, HF2⟩
        case measure => simp [intOf]; omega
      · obtain ⟨n1, n2, n3, n4, n5⟩ := hnx.1 rfl
        rw [if_neg (by rw [n1]; decide)] at hfp
        unfold fstP at hfp
        rw [if_pos (by exact n1)] at hfp
        have HFE : Hid (F = (f, (k : Int), 0)) := by show _ = _; rw [← hfp, ← n2]
        clear hfp ok hnx hone hS HPH HFF n1 n2 n3 n4 n5
        go_wp2_with fail
        refine (RStep_any A1 A2 A3 c1 c2 c3 us vs ss T _ HLV.out.mem).mono ?_
        unfold SQ
        rw [HF.out]
        rintro e x4 ⟨E1, E2, E3, e1, e2, e3, rfl, hm4, hn4, h4⟩
        dsimp only at hm4 hn4 ⊢
        have hs4 := h4.size
        have HLV4 := Lib.hid (HLV.out.ext h4)
        have HB4 := Lib.hid (HB.out.trans (h4.mono HB.out.size))
        have HM4 := Lib.hid hm4
        have HN4 := Lib.hid (hn4.neB zr ps qs ws)
        clear hm4 hn4 h4 p0 p1 p2 HLV HB HF
        go_wp2_with fail
        refine bodyPost_ret (v := .tuple #[.int .i64 f, .int .i64 k, .int .i64 0]) (by simp [results, Try.results22, go_sem]) rfl ?_
        rw [HFE.out]
        exact ⟨rfl, HB4.out.alloc (by have := HB4.out.size; omega) _⟩
  · have HE : Hid (firS T xs ys rs = (0, 0, z)) := by show _ = _; unfold firS; rw [hz, if_pos h0]
    rw [HE.out]
    have nz : (z != 0) = true := by simpa using h0
    clear hz
    have p0 : X.cell? ⟨w.heap.size, 0, none⟩ = some (.slice A1 xs.length c1) := (HK1.out.cell_ 0).trans (by simp)
    have p1 : X.cell? ⟨w.heap.size, 1, none⟩ = some (.slice A2 ys.length c2) := (HK1.out.cell_ 1).trans (by simp)
    have p2 : X.cell? ⟨w.heap.size, 2, none⟩ = some (.slice A3 rs.length c3) := (HK1.out.cell_ 2).trans (by simp)
    go_enter Try.func22, Try.ntmps22
    go_wp2_with fail
    (try rw [hX])
    refine (asked_any A1 A2 A3 c1 c2 c3 xs ys rs T X (HM.out.ext HBX.out)).mono ?_
    rw [HZ.out]
    rintro e x1 ⟨rfl, h1⟩
    clear p0 p1 p2 hX szX
    go_wp2_with fail
    refine bodyPost_ret (v := .tuple #[.int .i64 0, .int .i64 0, .int .i64 z]) (by simp [results, Try.results22, go_sem]) rfl ?_
    exact ⟨rfl, HBX.out.trans (h1.mono HBX.out.size)⟩

/-- Two lists that ascend, with the same elements. -/
theorem asc_eq : ∀ (l l' : List Int), l.Pairwise (· < ·) → l'.Pairwise (· < ·) → (∀ x, x ∈ l ↔ x ∈ l') → l = l'
  | [], [], _, _, _ => rfl
  | [], b :: t, _, _, h => absurd ((h b).2 (by simp)) (by simp)
  | a :: s, [], _, _, h => absurd ((h a).1 (by simp)) (by simp)
  | a :: s, b :: t, h1, h2, h => by
    have p1 := List.pairwise_cons.1 h1
    have p2 := List.pairwise_cons.1 h2
    have e : a = b := by
      have ha := (h a).1 (by simp)
      have hb := (h b).2 (by simp)
      rcases List.mem_cons.1 ha with e | ha
      · exact e
      · rcases List.mem_cons.1 hb with e | hb
        · exact e.symm
        · have := p1.1 b hb; have := p2.1 a ha; omega
    subst e
    rw [asc_eq s t p1.2 p2.2 fun x => ?_]
    constructor
    · intro hx
      rcases List.mem_cons.1 ((h x).1 (List.mem_cons_of_mem _ hx)) with e | hx'
      · have := p1.1 x hx; omega
      · exact hx'
    · intro hx
      rcases List.mem_cons.1 ((h x).2 (List.mem_cons_of_mem _ hx)) with e | hx'
      · have := p2.1 x hx; omega
      · exact hx'
/-- What the reference gathers. -/
def rsfP (us vs mo : List Int) (f : Nat) : Bool := (decide ((f : Int) ∈ us) || decide ((f : Int) ∈ vs)) && !decide ((f : Int) ∈ mo)
def rsfL (us vs mo : List Int) (k : Nat) : List Int := ((List.range k).filter (rsfP us vs mo)).map fun (f : Nat) => (f : Int)
theorem rsf_snoc_yes {us vs mo : List Int} {k : Nat} (h : rsfP us vs mo k = true) : rsfL us vs mo (k + 1) = rsfL us vs mo k ++ [(k : Int)] := by
  unfold rsfL; rw [List.range_succ, List.filter_append]; simp [h]
theorem rsf_snoc_no {us vs mo : List Int} {k : Nat} (h : rsfP us vs mo k = false) : rsfL us vs mo (k + 1) = rsfL us vs mo k := by
  unfold rsfL; rw [List.range_succ, List.filter_append]; simp [h]
theorem rsf_len (us vs mo : List Int) (k : Nat) : (rsfL us vs mo k).length ≤ k := by
  unfold rsfL; rw [List.length_map]; exact Nat.le_trans (List.length_filter_le _ _) (by simp)
theorem srt_asc {l : List Int} (hn : l.Nodup) : (srt l).Pairwise (· < ·) := by
  have hp : (srt l).Perm l := List.mergeSort_perm _ _
  have hs : (srt l).Pairwise (· ≤ ·) := by
    have := List.pairwise_mergeSort (le := fun (x y : Int) => decide (x ≤ y)) (by intro a b c h1 h2; simp at *; omega) (by intro a b; simp; omega) l
    exact this.imp (by intro a b h; simpa using h)
  have hd : (srt l).Nodup := hp.nodup_iff.2 hn
  exact List.Pairwise.imp₂ (fun a b h1 h2 => by omega) hs hd
theorem rsf_asc (us vs mo : List Int) (k : Nat) : (rsfL us vs mo k).Pairwise (· < ·) := by
  unfold rsfL
  rw [List.pairwise_map]
  refine List.Pairwise.imp (fun h => by omega) ((List.pairwise_lt_range (n := k)).filter _)
theorem rsf_eq {us vs mo : List Int} {k : Nat} (hn : (us ++ vs).Nodup) (hr : ∀ x ∈ us ++ vs, 0 ≤ x ∧ x < k) : srt (kep mo (us ++ vs)) = rsfL us vs mo k := by
  refine asc_eq _ _ (srt_asc (hn.filter _)) (rsf_asc _ _ _ _) fun x => ?_
  have hp : (srt (kep mo (us ++ vs))).Perm (kep mo (us ++ vs)) := List.mergeSort_perm _ _
  rw [hp.mem_iff]
  unfold kep rsfL rsfP
  rw [List.mem_filter, List.mem_map]
  constructor
  · rintro ⟨hm, hk⟩
    have := hr x hm
    refine ⟨x.toNat, List.mem_filter.2 ⟨List.mem_range.2 (by omega), ?_⟩, by omega⟩
    rw [show ((x.toNat : Nat) : Int) = x by omega]
    simp only [Bool.and_eq_true, Bool.or_eq_true, decide_eq_true_eq]
    exact ⟨List.mem_append.1 hm, by simpa using hk⟩
  · rintro ⟨f, hf, rfl⟩
    have := (List.mem_filter.1 hf).2
    simp only [Bool.and_eq_true, Bool.or_eq_true, decide_eq_true_eq] at this
    exact ⟨List.mem_append.2 this.1, by simpa using this.2⟩
theorem sw_mlen {T : Int} : ∀ (n : Nat) (xs ys : List Int) (rs : List Bool), (swS T n xs ys rs).mov.length ≤ n := by
  intro n
  induction n with
  | zero => intro xs ys rs; exact Nat.le_refl _
  | succ n ih =>
    intro xs ys rs
    by_cases h : (nxtS T xs ys rs).1 = 0
    · rw [swS_stop h]; simp
    · rw [swS_go h]
      have := ih (nxX T xs ys rs) (nxY T xs ys rs) (nxR T xs ys rs)
      dsimp only
      split
      · omega
      · rw [List.length_cons]; omega
/-- scan.Safe. -/
def safS (T n : Int) (xs ys : List Int) (rs : List Bool) : List Int × Int := if ctdS xs ys rs T n ≠ 0 then ([], ctdS xs ys rs T n) else (srt (kep (swS T n.toNat xs ys rs).mov ((swS T n.toNat xs ys rs).xs ++ (swS T n.toNat xs ys rs).ys)), 0)

set_option maxRecDepth 100000 in
set_option maxHeartbeats 8000000 in
theorem RSafe_any (A1 A2 A3 : Option Addr) (c1 c2 c3 : Nat) (xs ys : List Int) (rs : List Bool) (T n : Int) (w : World) (h : InMem w A1 A2 A3 xs ys rs) :
    Calls Try.prog 26 #[.agg #[.slice A1 xs.length c1, .slice A2 ys.length c2, .slice A3 rs.length c3], .int .i64 T, .int .i64 n] w (VPost (safS T n xs ys rs) w) := by
  obtain ⟨i0, hi0, hz0, hz1, hz2⟩ := info_parts intInfo
  have HM := Lib.hid h
  clear h
  obtain ⟨X, hX⟩ : ∃ X, w.alloc (.cells #[.slice A1 xs.length c1, .slice A2 ys.length c2, .slice A3 rs.length c3] 25) = X := ⟨_, rfl⟩
  have HK1 : Hid (Blk X w.heap.size 25 #[.slice A1 xs.length c1, .slice A2 ys.length c2, .slice A3 rs.length c3]) := by show Blk _ _ _ _; rw [← hX]; exact Blk.new_ rfl rfl
  have HBX : Hid (Below w.heap.size w X) := by show Below _ _ _; rw [← hX]; exact (Below.refl _ _).alloc (Nat.le_refl _) _
  have szX : X.heap.size = w.heap.size + 1 := by rw [← hX]; simp
  obtain ⟨z, hz⟩ : ∃ z, ctdS xs ys rs T n = z := ⟨_, rfl⟩
  have HZ := Lib.hid hz
  by_cases h0 : z = 0
  · subst h0
    obtain ⟨hc, ht, n0, n1⟩ := ctd_ok hz
    obtain ⟨m, rfl⟩ : ∃ m : Nat, n = m := ⟨n.toNat, by omega⟩
    have hcs := sw_chk (T := T) m xs ys rs hc
    obtain ⟨⟨us, vs, ss, vic, mo⟩, hR⟩ : ∃ R, swS T m xs ys rs = R := ⟨_, rfl⟩
    rw [hR] at hcs
    dsimp only at hcs
    have hv := valid_of_chk hcs
    have HE : Hid (safS T m xs ys rs = (rsfL us vs mo ss.length, 0)) := by
      show _ = _
      unfold safS
      rw [hz, if_neg (by simp), Int.toNat_natCast, hR]
      dsimp only
      rw [rsf_eq hv.nodup hv.range]
    have HR := Lib.hid hR
    have hl1 := hv.len
    have hl2 := hv.hi
    rw [HE.out]
    clear hz hR hcs hv
    have p0 : X.cell? ⟨w.heap.size, 0, none⟩ = some (.slice A1 xs.length c1) := (HK1.out.cell_ 0).trans (by simp)
    have p1 : X.cell? ⟨w.heap.size, 1, none⟩ = some (.slice A2 ys.length c2) := (HK1.out.cell_ 1).trans (by simp)
    have p2 : X.cell? ⟨w.heap.size, 2, none⟩ = some (.slice A3 rs.length c3) := (HK1.out.cell_ 2).trans (by simp)
    go_enter Try.func26, Try.ntmps26
    go_wp2_with fail
    (try rw [hX])
    refine (Rcounted_any A1 A2 A3 c1 c2 c3 xs ys rs T m X (HM.out.ext HBX.out)).mono ?_
    rw [HZ.out]
    rintro e x1 ⟨rfl, h1⟩
    clear p0 p1 p2 hX szX
    have HK1_ := Lib.hid (HK1.out.below_ h1 HK1.out.lt)
    have HBX_ := Lib.hid (HBX.out.trans (h1.mono HBX.out.size))
    clear HK1 HBX h1
    obtain ⟨HK1, _⟩ := And.intro HK1_ trivial
    clear HK1_
    obtain ⟨HBX, _⟩ := And.intro HBX_ trivial
    clear HBX_
    have p0 : x1.cell? ⟨w.heap.size, 0, none⟩ = some (.slice A1 xs.length c1) := (HK1.out.cell_ 0).trans (by simp)
    have p1 : x1.cell? ⟨w.heap.size, 1, none⟩ = some (.slice A2 ys.length c2) := (HK1.out.cell_ 1).trans (by simp)
    have p2 : x1.cell? ⟨w.heap.size, 2, none⟩ = some (.slice A3 rs.length c3) := (HK1.out.cell_ 2).trans (by simp)
    go_wp2_with fail
    refine (Rsweep_any A1 A2 A3 c1 c2 c3 xs ys rs T m x1 (HM.out.ext HBX.out) hc ht (by omega)).mono ?_
    unfold RwQ
    rw [HR.out]
    rintro e x3 ⟨B1, B2, B3, d1, d2, d3, Q0, qc0, Y, yc, rfl, hm2, hn2, hq2, hy2, gq2, gy2, h2⟩
    dsimp only at hm2 hn2 hq2 hy2 ⊢
    have HM2 := Lib.hid hm2; have HY2 := Lib.hid hy2
    have HB2 := Lib.hid (HBX.out.trans (h2.mono HBX.out.size))
    have hml : mo.length ≤ 1000 := by have := sw_mlen (T := T) m xs ys rs; rw [HR.out] at this; dsimp only at this; omega
    clear hm2 hn2 hq2 hy2 gq2 gy2 h2 p0 p1 p2 HK1 HBX HR HZ HM
    go_wp2_with fail
    go_loopw [12, 13] (fun s i wr => ∃ k : Nat, k ≤ ss.length ∧ i = .int .i64 k ∧ ∃ Q qc, s = .slice Q (rsfL us vs mo k).length qc ∧ Hid (Own wr (x3.heap.size + 1) 3 (.int .i64) (.slice Q (rsfL us vs mo k).length qc) (rsfL us vs mo k)) ∧ Hid (Blk wr x3.heap.size 25 #[.slice B1 us.length d1, .slice B2 vs.length d2, .slice B3 ss.length d3]) ∧ Hid (Below (x3.heap.size + 1) (x3.alloc (.cells #[.slice B1 us.length d1, .slice B2 vs.length d2, .slice B3 ss.length d3] 25)) wr)) (fun _ i _ => ss.length - (intOf i).toNat)
    case atStart => exact ⟨0, by omega, rfl, none, 0, rfl, (by show Own _ _ _ _ _ _; exact World.ownsRow_nil _ _ _ _), (by show Blk _ _ _ _; exact Blk.new_ rfl rfl), Below.refl _ _⟩
    case round =>
      obtain ⟨k, hk, rfl, Q, qc, rfl, HO, HK9, HB⟩ := hrel
      have hbx : Below x3.heap.size x3 wr := ((Below.refl _ _).alloc (Nat.le_refl _) _).trans (HB.out.mono (by omega))
      have Sus := Lib.hid (HM2.out.a.ext hbx)
      have Svs := Lib.hid (HM2.out.i.ext hbx)
      have Smo := Lib.hid (HY2.out.ext hbx)
      have p0 : wr.cell? ⟨x3.heap.size, 0, none⟩ = some (.slice B1 us.length d1) := (HK9.out.cell_ 0).trans (by simp)
      have p1 : wr.cell? ⟨x3.heap.size, 1, none⟩ = some (.slice B2 vs.length d2) := (HK9.out.cell_ 1).trans (by simp)
      have p2 : wr.cell? ⟨x3.heap.size, 2, none⟩ = some (.slice B3 ss.length d3) := (HK9.out.cell_ 2).trans (by simp)
      have zk := HK9.out.lt
      have hrl := rsf_len us vs mo k
      obtain ⟨zs, hzs⟩ : ∃ zs, rsfL us vs mo k = zs := ⟨_, rfl⟩
      rw [hzs] at HO hrl ⊢
      have HZS := Lib.hid hzs
      clear hzs
      by_cases hlt : k < ss.length
      · have i1 : (k : Int) < ss.length := by omega
        have hwk : IntKind.i64.wrap (k : Int) = k := by rw [IntKind.wrap_i64]; omega
        by_cases hku : (k : Int) ∈ us
        · by_cases hkm : (k : Int) ∈ mo
          · have hu : decide ((k : Int) ∈ us) = true := decide_eq_true hku
            have hm : decide ((k : Int) ∈ mo) = true := decide_eq_true hkm
            have hno : rsfP us vs mo k = false := by unfold rsfP; rw [hu, hm]; cases decide ((k : Int) ∈ vs) <;> rfl
            go_wp2_with fail
            refine (Rin_any B1 d1 us k _ Sus.out (by omega)).mono ?_
            rw [hu]
            rintro e x6 ⟨rfl, rfl⟩
            go_wp2_with fail
            refine (Rin_any Y yc mo k _ Smo.out (by omega)).mono ?_
            rw [hm]
            rintro e x6 ⟨rfl, rfl⟩
            go_wp2_with fail
            go_roundw
            case rel => exact ⟨k + 1, by omega, by go_num, Q, qc, by rw [rsf_snoc_no hno, HZS.out], by rw [rsf_snoc_no hno, HZS.out]; exact HO, HK9, HB⟩
            case measure => simp [intOf]; omega
          · have hu : decide ((k : Int) ∈ us) = true := decide_eq_true hku
            have hm : decide ((k : Int) ∈ mo) = false := decide_eq_false hkm
            have hyes : rsfP us vs mo k = true := by unfold rsfP; rw [hu, hm]; cases decide ((k : Int) ∈ vs) <;> rfl
            have hsf : Sl (wr.alloc (.cells #[.int .i64 (k : Int)] 3)) (Value.int .i64) (some ⟨wr.heap.size, 0, none⟩) [(k : Int)] := Sl.of_lit (t := 3) (Blk.new_ rfl rfl)
            have HO2 := Lib.hid (HO.out.below (w' := wr.alloc (.cells #[.int .i64 (k : Int)] 3)) ((Below.refl _ _).alloc (Nat.le_refl _) _))
            have HSF := Lib.hid hsf
            clear hsf
            go_wp2_with fail
            refine (Rin_any B1 d1 us k _ Sus.out (by omega)).mono ?_
            rw [hu]
            rintro e x6 ⟨rfl, rfl⟩
            go_wp2_with fail
            refine (Rin_any Y yc mo k _ Smo.out (by omega)).mono ?_
            rw [hm]
            rintro e x6 ⟨rfl, rfl⟩
            go_wp2_with (at_builtin; refine wpList_appS (mk := Value.int .i64) _ rfl (.tmp 52) (.tmp 54) _ rfl 3 i0 _ 8 Try.underlying22 hi0 hz0 hz1 hz2 rfl (x3.heap.size + 1) Q qc zs rfl HO2.out (some ⟨wr.heap.size, 0, none⟩) 1 [(k : Int)] rfl HSF.out (int_one [(k : Int)]) (by simp; omega) (by simp; omega) (by simp; omega) ?_; intro A5 c5 w5 ho5 hg5 hl5; have HO5 := Lib.hid ho5; have HG5 := Lib.hid hg5; clear ho5 hg5 hl5)
            go_roundw
            case rel =>
              refine ⟨k + 1, by omega, by go_num, A5, c5, by rw [rsf_snoc_yes hyes, HZS.out]; simp, ?_, ?_, ?_⟩
              · show Own _ _ _ _ _ _
                rw [rsf_snoc_yes hyes, HZS.out]; exact HO5.out
              · show Blk _ _ _ _
                exact HK9.out.below_ (((Below.refl _ _).alloc (by have := HK9.out.lt; omega) _).grown HG5.out (by simp; have := HK9.out.lt; omega) (fun g hg => by have := (HO2.out.block g hg).1; omega)) (Nat.lt_succ_self _)
              · show Below _ _ _
                exact (HB.out.alloc (by have := HB.out.size; omega) _).grown HG5.out (by have := HB.out.size; simp; omega) (fun g hg => (HO2.out.block g hg).1)
            case measure => simp [intOf]; omega
        · by_cases hkv : (k : Int) ∈ vs
          · by_cases hkm : (k : Int) ∈ mo
            · have hu : decide ((k : Int) ∈ us) = false := decide_eq_false hku
              have hv : decide ((k : Int) ∈ vs) = true := decide_eq_true hkv
              have hm : decide ((k : Int) ∈ mo) = true := decide_eq_true hkm
              have hno : rsfP us vs mo k = false := by unfold rsfP; rw [hu, hv, hm]; rfl
              go_wp2_with fail
              refine (Rin_any B1 d1 us k _ Sus.out (by omega)).mono ?_
              rw [hu]
              rintro e x6 ⟨rfl, rfl⟩
              go_wp2_with fail
              refine (Rin_any B2 d2 vs k _ Svs.out (by omega)).mono ?_
              rw [hv]
              rintro e x6 ⟨rfl, rfl⟩
              go_wp2_with fail
              refine (Rin_any Y yc mo k _ Smo.out (by omega)).mono ?_
              rw [hm]
              rintro e x6 ⟨rfl, rfl⟩
              go_wp2_with fail
              go_roundw
              case rel => exact ⟨k + 1, by omega, by go_num, Q, qc, by rw [rsf_snoc_no hno, HZS.out], by rw [rsf_snoc_no hno, HZS.out]; exact HO, HK9, HB⟩
              case measure => simp [intOf]; omega
            · have hu : decide ((k : Int) ∈ us) = false := decide_eq_false hku
              have hv : decide ((k : Int) ∈ vs) = true := decide_eq_true hkv
              have hm : decide ((k : Int) ∈ mo) = false := decide_eq_false hkm
              have hyes : rsfP us vs mo k = true := by unfold rsfP; rw [hu, hv, hm]; rfl
              have hsf : Sl (wr.alloc (.cells #[.int .i64 (k : Int)] 3)) (Value.int .i64) (some ⟨wr.heap.size, 0, none⟩) [(k : Int)] := Sl.of_lit (t := 3) (Blk.new_ rfl rfl)
              have HO2 := Lib.hid (HO.out.below (w' := wr.alloc (.cells #[.int .i64 (k : Int)] 3)) ((Below.refl _ _).alloc (Nat.le_refl _) _))
              have HSF := Lib.hid hsf
              clear hsf
              go_wp2_with fail
              refine (Rin_any B1 d1 us k _ Sus.out (by omega)).mono ?_
              rw [hu]
              rintro e x6 ⟨rfl, rfl⟩
              go_wp2_with fail
              refine (Rin_any B2 d2 vs k _ Svs.out (by omega)).mono ?_
              rw [hv]
              rintro e x6 ⟨rfl, rfl⟩
              go_wp2_with fail
              refine (Rin_any Y yc mo k _ Smo.out (by omega)).mono ?_
              rw [hm]
              rintro e x6 ⟨rfl, rfl⟩
              go_wp2_with (at_builtin; refine wpList_appS (mk := Value.int .i64) _ rfl (.tmp 52) (.tmp 54) _ rfl 3 i0 _ 8 Try.underlying22 hi0 hz0 hz1 hz2 rfl (x3.heap.size + 1) Q qc zs rfl HO2.out (some ⟨wr.heap.size, 0, none⟩) 1 [(k : Int)] rfl HSF.out (int_one [(k : Int)]) (by simp; omega) (by simp; omega) (by simp; omega) ?_; intro A5 c5 w5 ho5 hg5 hl5; have HO5 := Lib.hid ho5; have HG5 := Lib.hid hg5; clear ho5 hg5 hl5)
              go_roundw
              case rel =>
                refine ⟨k + 1, by omega, by go_num, A5, c5, by rw [rsf_snoc_yes hyes, HZS.out]; simp, ?_, ?_, ?_⟩
                · show Own _ _ _ _ _ _
                  rw [rsf_snoc_yes hyes, HZS.out]; exact HO5.out
                · show Blk _ _ _ _
                  exact HK9.out.below_ (((Below.refl _ _).alloc (by have := HK9.out.lt; omega) _).grown HG5.out (by simp; have := HK9.out.lt; omega) (fun g hg => by have := (HO2.out.block g hg).1; omega)) (Nat.lt_succ_self _)
                · show Below _ _ _
                  exact (HB.out.alloc (by have := HB.out.size; omega) _).grown HG5.out (by have := HB.out.size; simp; omega) (fun g hg => (HO2.out.block g hg).1)
              case measure => simp [intOf]; omega
          · have hu : decide ((k : Int) ∈ us) = false := decide_eq_false hku
            have hv : decide ((k : Int) ∈ vs) = false := decide_eq_false hkv
            have hno : rsfP us vs mo k = false := by unfold rsfP; rw [hu, hv]; rfl
            go_wp2_with fail
            refine (Rin_any B1 d1 us k _ Sus.out (by omega)).mono ?_
            rw [hu]
            rintro e x6 ⟨rfl, rfl⟩
            go_wp2_with fail
            refine (Rin_any B2 d2 vs k _ Svs.out (by omega)).mono ?_
            rw [hv]
            rintro e x6 ⟨rfl, rfl⟩
            go_wp2_with fail
            go_roundw
            case rel => exact ⟨k + 1, by omega, by go_num, Q, qc, by rw [rsf_snoc_no hno, HZS.out], by rw [rsf_snoc_no hno, HZS.out]; exact HO, HK9, HB⟩
            case measure => simp [intOf]; omega
      · obtain rfl : k = ss.length := by omega
        have hbw : Below w.heap.size w wr := HB2.out.trans (hbx.mono HB2.out.size)
        have HBW := Lib.hid hbw
        rw [HZS.out]
        clear hbx hbw
        go_wp2_with fail
        refine bodyPost_ret (v := .tuple #[.slice Q zs.length qc, .int .i64 0]) (by simp [results, Try.results26, go_sem]) rfl ?_
        show VPost (rsfL us vs mo ss.length, 0) _ _ _
        rw [HZS.out]
        exact ⟨Q, qc, rfl, own_sl HO.out, HBW.out⟩
  · have HE : Hid (safS T n xs ys rs = ([], z)) := by show _ = _; unfold safS; rw [hz, if_pos h0]
    rw [HE.out]
    have nz : (z != 0) = true := by simpa using h0
    clear hz
    have p0 : X.cell? ⟨w.heap.size, 0, none⟩ = some (.slice A1 xs.length c1) := (HK1.out.cell_ 0).trans (by simp)
    have p1 : X.cell? ⟨w.heap.size, 1, none⟩ = some (.slice A2 ys.length c2) := (HK1.out.cell_ 1).trans (by simp)
    have p2 : X.cell? ⟨w.heap.size, 2, none⟩ = some (.slice A3 rs.length c3) := (HK1.out.cell_ 2).trans (by simp)
    go_enter Try.func26, Try.ntmps26
    go_wp2_with fail
    (try rw [hX])
    refine (Rcounted_any A1 A2 A3 c1 c2 c3 xs ys rs T n X (HM.out.ext HBX.out)).mono ?_
    rw [HZ.out]
    rintro e x1 ⟨rfl, h1⟩
    clear p0 p1 p2 hX szX
    go_wp2_with fail
    refine bodyPost_ret (v := .tuple #[.slice none 0 0, .int .i64 z]) (by simp [results, Try.results26, go_sem]) rfl ?_
    exact ⟨none, 0, rfl, Sl.nil, HBX.out.trans (h1.mono HBX.out.size)⟩
end Go.Proofs.Ytiobbdfkimpfbaa
