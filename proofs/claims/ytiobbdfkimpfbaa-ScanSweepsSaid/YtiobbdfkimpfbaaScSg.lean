/- scan.Sweep, scan.Safe by their whole answers. Written by gen_lssw.py. -/
import Derived.Test.YtiobbdfkimpfbaaRScB
import Derived.Test.YtiobbdfkimpfbaaScBd
import Derived.Test.YtiobbdfkimpfbaaScSw
namespace Go.Proofs.Ytiobbdfkimpfbaa
set_option linter.unusedSimpArgs false
set_option linter.unusedVariables false
open Go.RowKit Go.Maps

theorem Sweep_any (A1 A2 A3 : Option Addr) (c1 c2 c3 : Nat) (xs ys : List Int) (rs : List Bool) (T n : Int) (w : World) (h : InMem w A1 A2 A3 xs ys rs) :
    Calls Try.prog 18 #[.agg #[.slice A1 xs.length c1, .slice A2 ys.length c2, .slice A3 rs.length c3], .int .i64 T, .int .i64 n] w (SwpQ (swpS T n xs ys rs) w) := by
  by_cases h0 : ctdS xs ys rs T n = 0
  · obtain ⟨hc, ht, n0, n1⟩ := ctd_ok h0
    obtain ⟨m, rfl⟩ : ∃ m : Nat, n = m := ⟨n.toNat, by omega⟩
    unfold swpS
    rw [if_neg (by rw [h0]; simp), Int.toNat_natCast]
    exact (Sweep_sw A1 A2 A3 c1 c2 c3 xs ys rs T m w h hc ht (by omega)).mono fun _ _ ⟨B1, B2, B3, d1, d2, d3, A, c, he, hm, hs, hb⟩ => ⟨B1, B2, B3, d1, d2, d3, A, c, he, hm, hs, hb⟩
  · unfold swpS
    rw [if_pos h0]
    have hp : ∀ e w', (e = .returned (.tuple #[.agg #[.slice none 0 0, .slice none 0 0, .slice none 0 0], .slice none 0 0, .int .i64 (ctdS xs ys rs T n)]) ∧ Below w.heap.size w w') → SwpQ (⟨[], [], [], [], []⟩, ctdS xs ys rs T n) w e w' :=
      fun e w' ⟨he, hb⟩ => ⟨none, none, none, 0, 0, 0, none, 0, he, inMem_none _, Sl.nil, hb⟩
    cases ht : tgtB T with
    | false => exact (Sweep_badT A1 A2 A3 c1 c2 c3 xs ys rs T n w h ht (z := ctdS xs ys rs T n) (by unfold ctdS; rw [ht]; rfl) h0).mono hp
    | true => exact (Sweep_bad A1 A2 A3 c1 c2 c3 xs ys rs T n w h ht (bn := cntB n) rfl (z := ctdS xs ys rs T n) (by unfold ctdS; rw [ht]; rfl) h0).mono hp
theorem Safe_any (A1 A2 A3 : Option Addr) (c1 c2 c3 : Nat) (xs ys : List Int) (rs : List Bool) (T n : Int) (w : World) (h : InMem w A1 A2 A3 xs ys rs) :
    Calls Try.prog 25 #[.agg #[.slice A1 xs.length c1, .slice A2 ys.length c2, .slice A3 rs.length c3], .int .i64 T, .int .i64 n] w (VPost (safS T n xs ys rs) w) := by
  by_cases h0 : ctdS xs ys rs T n = 0
  · obtain ⟨hc, ht, n0, n1⟩ := ctd_ok h0
    obtain ⟨m, rfl⟩ : ∃ m : Nat, n = m := ⟨n.toNat, by omega⟩
    unfold safS
    rw [if_neg (by rw [h0]; simp), Int.toNat_natCast]
    exact Safe_sw A1 A2 A3 c1 c2 c3 xs ys rs T m w h hc ht (by omega)
  · unfold safS
    rw [if_pos h0]
    have hp : ∀ e w', (e = .returned (.tuple #[.slice none 0 0, .int .i64 (ctdS xs ys rs T n)]) ∧ Below w.heap.size w w') → VPost ([], ctdS xs ys rs T n) w e w' := fun e w' ⟨he, hb⟩ => ⟨none, 0, he, Sl.nil, hb⟩
    cases ht : tgtB T with
    | false => exact (Safe_badT A1 A2 A3 c1 c2 c3 xs ys rs T n w h ht (z := ctdS xs ys rs T n) (by unfold ctdS; rw [ht]; rfl) h0).mono hp
    | true => exact (Safe_bad A1 A2 A3 c1 c2 c3 xs ys rs T n w h ht (bn := cntB n) rfl (z := ctdS xs ys rs T n) (by unfold ctdS; rw [ht]; rfl) h0).mono hp
theorem swp_small {T n : Int} {xs ys : List Int} {rs : List Bool} : (swpS T n xs ys rs).1.xs.length ≤ 1000 ∧ (swpS T n xs ys rs).1.ys.length ≤ 1000 ∧ (swpS T n xs ys rs).1.rs.length ≤ 1000 ∧ (swpS T n xs ys rs).1.vic.length ≤ 1000 := by
  unfold swpS
  by_cases h0 : ctdS xs ys rs T n = 0
  · rw [if_neg (by simpa using h0)]
    obtain ⟨hc, ht, n0, n1⟩ := ctd_ok h0
    have hl := chk_len (sw_chk (T := T) n.toNat xs ys rs hc)
    have hv := sw_vic (T := T) n.toNat xs ys rs
    have := valid_of_chk (sw_chk (T := T) n.toNat xs ys rs hc)
    have := this.hi
    dsimp only
    omega
  · rw [if_pos h0]; simp
theorem saf_small {T n : Int} {xs ys : List Int} {rs : List Bool} : (safS T n xs ys rs).1.length ≤ 1000 := by
  unfold safS
  by_cases h0 : ctdS xs ys rs T n = 0
  · rw [if_neg (by simpa using h0)]
    obtain ⟨hc, ht, n0, n1⟩ := ctd_ok h0
    have hl := (valid_of_chk (sw_chk (T := T) n.toNat xs ys rs hc))
    have h1 := hl.len
    have h2 := hl.hi
    have h3 := kep_len (swS T n.toNat xs ys rs).mov ((swS T n.toNat xs ys rs).xs ++ (swS T n.toNat xs ys rs).ys)
    dsimp only
    rw [srt_len]
    rw [List.length_append] at h3
    omega
  · rw [if_pos h0]; simp
theorem vic_small {T : Int} {xs ys : List Int} {rs : List Bool} : (vicS T xs ys rs).1.length ≤ 2000 := by
  unfold vicS
  by_cases h0 : sndS xs ys rs (tgtB T) = 0
  · rw [if_neg (by simpa using h0)]
    exact Nat.le_trans (vicP_len _) (full_len (snd_ok h0).1)
  · rw [if_pos h0]; simp
end Go.Proofs.Ytiobbdfkimpfbaa
