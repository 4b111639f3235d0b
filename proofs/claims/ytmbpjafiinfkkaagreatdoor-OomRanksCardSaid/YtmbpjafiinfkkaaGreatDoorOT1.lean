/- Package reclaim: a tally's methods, what hinders a write, the direct step. Written by gen_ot1.py. -/
import Derived.Test.YtmbpjafiinfkkaaGreatDoorOP1
import Derived.Laws.EntriesVeiled
namespace Go.Proofs.YtmbpjafiinfkkaaGreatDoor
set_option linter.unusedSimpArgs false
set_option linter.unusedVariables false
open Go.RowKit Go.Maps

/-- A tally. -/
structure TL where
  fr : Int
  mn : Int
  lw : Int
  hi : Int
  aw : Bool
  ob : Int
  ac : Int
  ina : Int
  tg : Int
  rf : Bool
  wr : Int
  cp : Int
  orp : Int
  rm : Int
  sl : Int
def tlC (t : TL) : Array Value := #[.int .i64 t.fr, .int .i64 t.mn, .int .i64 t.lw, .int .i64 t.hi, .bool t.aw, .int .i64 t.ob, .int .i64 t.ac, .int .i64 t.ina, .int .i64 t.tg, .bool t.rf, .int .i64 t.wr, .int .i64 t.cp, .int .i64 t.orp, .int .i64 t.rm, .int .i64 t.sl]

set_option maxRecDepth 100000 in
set_option maxHeartbeats 2000000 in
theorem tobjects_any (t : TL) (w : World) : Calls Tryz.prog 114 #[.agg (tlC t)] w fun e w' => e = .returned (.bool (decide (0 < t.ob))) ∧ Below w.heap.size w w' := by
  obtain ⟨b, hb⟩ : ∃ b, (decide (0 < t.ob)) = b := ⟨_, rfl⟩
  rw [hb]
  have HB := Lib.hid hb
  clear hb
  unfold tlC
  go_enter Tryz.func114, Tryz.ntmps114
  go_wp2
  refine bodyPost_ret (v := .bool (decide (0 < t.ob))) (by simp [results, Tryz.results114, go_sem]) rfl ?_
  exact ⟨ret_bool HB.out, (by repeat' (first | with_reducible exact Below.refl _ _ | with_reducible assumption | with_reducible apply Below.drew | with_reducible apply below_drewN | with_reducible apply Below.alloc | with_reducible apply Below.setCell | (with_reducible refine Below.trans ?_ (Below.mono (by assumption) ?_)) | (simp; done) | (simp; omega) | omega | with_reducible apply le_size_alloc | with_reducible apply le_size_drewN | with_reducible apply le_size_drew | with_reducible apply le_size_setCell | refine Nat.le_trans ?_ (Below.size (by assumption))))⟩

set_option maxRecDepth 100000 in
set_option maxHeartbeats 2000000 in
theorem tcapped_any (t : TL) (w : World) : Calls Tryz.prog 138 #[.agg (tlC t)] w fun e w' => e = .returned (.bool (t.wr == t.cp)) ∧ Below w.heap.size w w' := by
  obtain ⟨b, hb⟩ : ∃ b, (t.wr == t.cp) = b := ⟨_, rfl⟩
  rw [hb]
  have HB := Lib.hid hb
  clear hb
  unfold tlC
  go_enter Tryz.func138, Tryz.ntmps138
  go_wp2
  refine bodyPost_ret (v := .bool (t.wr == t.cp)) (by simp [results, Tryz.results138, go_sem]) rfl ?_
  exact ⟨ret_bool HB.out, (by repeat' (first | with_reducible exact Below.refl _ _ | with_reducible assumption | with_reducible apply Below.drew | with_reducible apply below_drewN | with_reducible apply Below.alloc | with_reducible apply Below.setCell | (with_reducible refine Below.trans ?_ (Below.mono (by assumption) ?_)) | (simp; done) | (simp; omega) | omega | with_reducible apply le_size_alloc | with_reducible apply le_size_drewN | with_reducible apply le_size_drew | with_reducible apply le_size_setCell | refine Nat.le_trans ?_ (Below.size (by assumption))))⟩

set_option maxRecDepth 100000 in
set_option maxHeartbeats 2000000 in
theorem tcrowded_any (t : TL) (w : World) : Calls Tryz.prog 139 #[.agg (tlC t)] w fun e w' => e = .returned (.bool (t.rm == 0)) ∧ Below w.heap.size w w' := by
  obtain ⟨b, hb⟩ : ∃ b, (t.rm == 0) = b := ⟨_, rfl⟩
  rw [hb]
  have HB := Lib.hid hb
  clear hb
  unfold tlC
  go_enter Tryz.func139, Tryz.ntmps139
  go_wp2
  refine bodyPost_ret (v := .bool (t.rm == 0)) (by simp [results, Tryz.results139, go_sem]) rfl ?_
  exact ⟨ret_bool HB.out, (by repeat' (first | with_reducible exact Below.refl _ _ | with_reducible assumption | with_reducible apply Below.drew | with_reducible apply below_drewN | with_reducible apply Below.alloc | with_reducible apply Below.setCell | (with_reducible refine Below.trans ?_ (Below.mono (by assumption) ?_)) | (simp; done) | (simp; omega) | omega | with_reducible apply le_size_alloc | with_reducible apply le_size_drewN | with_reducible apply le_size_drew | with_reducible apply le_size_setCell | refine Nat.le_trans ?_ (Below.size (by assumption))))⟩

set_option maxRecDepth 100000 in
set_option maxHeartbeats 2000000 in
theorem tfull_any (t : TL) (w : World) : Calls Tryz.prog 140 #[.agg (tlC t)] w fun e w' => e = .returned (.bool (t.sl == 0)) ∧ Below w.heap.size w w' := by
  obtain ⟨b, hb⟩ : ∃ b, (t.sl == 0) = b := ⟨_, rfl⟩
  rw [hb]
  have HB := Lib.hid hb
  clear hb
  unfold tlC
  go_enter Tryz.func140, Tryz.ntmps140
  go_wp2
  refine bodyPost_ret (v := .bool (t.sl == 0)) (by simp [results, Tryz.results140, go_sem]) rfl ?_
  exact ⟨ret_bool HB.out, (by repeat' (first | with_reducible exact Below.refl _ _ | with_reducible assumption | with_reducible apply Below.drew | with_reducible apply below_drewN | with_reducible apply Below.alloc | with_reducible apply Below.setCell | (with_reducible refine Below.trans ?_ (Below.mono (by assumption) ?_)) | (simp; done) | (simp; omega) | omega | with_reducible apply le_size_alloc | with_reducible apply le_size_drewN | with_reducible apply le_size_drew | with_reducible apply le_size_setCell | refine Nat.le_trans ?_ (Below.size (by assumption))))⟩

set_option maxRecDepth 100000 in
set_option maxHeartbeats 2000000 in
theorem talways_any (t : TL) (w : World) : Calls Tryz.prog 117 #[.agg (tlC t)] w fun e w' => e = .returned (.bool (true)) ∧ Below w.heap.size w w' := by
  obtain ⟨b, hb⟩ : ∃ b, (true) = b := ⟨_, rfl⟩
  rw [hb]
  have HB := Lib.hid hb
  clear hb
  unfold tlC
  go_enter Tryz.func117, Tryz.ntmps117
  go_wp2
  refine bodyPost_ret (v := .bool (true)) (by simp [results, Tryz.results117, go_sem]) rfl ?_
  exact ⟨ret_bool HB.out, (by repeat' (first | with_reducible exact Below.refl _ _ | with_reducible assumption | with_reducible apply Below.drew | with_reducible apply below_drewN | with_reducible apply Below.alloc | with_reducible apply Below.setCell | (with_reducible refine Below.trans ?_ (Below.mono (by assumption) ?_)) | (simp; done) | (simp; omega) | omega | with_reducible apply le_size_alloc | with_reducible apply le_size_drewN | with_reducible apply le_size_drew | with_reducible apply le_size_setCell | refine Nat.le_trans ?_ (Below.size (by assumption))))⟩

set_option maxRecDepth 100000 in
set_option maxHeartbeats 2000000 in
theorem tempty_any (t : TL) (w : World) : Calls Tryz.prog 137 #[.agg (tlC t)] w fun e w' => e = .returned (.bool (t.ac == 0 && t.ina == 0)) ∧ Below w.heap.size w w' := by
  obtain ⟨b, hb⟩ : ∃ b, (t.ac == 0 && t.ina == 0) = b := ⟨_, rfl⟩
  rw [hb]
  have HB := Lib.hid hb
  clear hb
  unfold tlC
  by_cases h1 : t.ac = 0
  · have hq : (t.ac == 0) = true := by simpa using h1
    go_enter Tryz.func137, Tryz.ntmps137
    go_wp2
    refine bodyPost_ret (v := .bool (t.ina == 0)) (by simp [results, Tryz.results137, go_sem]) rfl ?_
    exact ⟨ret_bool (by rw [← HB.out]; first | (simp [h1]; done) | (simp; omega)), (by repeat' (first | with_reducible exact Below.refl _ _ | with_reducible assumption | with_reducible apply Below.drew | with_reducible apply below_drewN | with_reducible apply Below.alloc | with_reducible apply Below.setCell | (with_reducible refine Below.trans ?_ (Below.mono (by assumption) ?_)) | (simp; done) | (simp; omega) | omega | with_reducible apply le_size_alloc | with_reducible apply le_size_drewN | with_reducible apply le_size_drew | with_reducible apply le_size_setCell | refine Nat.le_trans ?_ (Below.size (by assumption))))⟩
  · have hq : (t.ac == 0) = false := by simpa using h1
    go_enter Tryz.func137, Tryz.ntmps137
    go_wp2
    refine bodyPost_ret (v := .bool (false)) (by simp [results, Tryz.results137, go_sem]) rfl ?_
    exact ⟨ret_bool (by rw [← HB.out]; first | (simp [h1]; done) | (simp; omega)), (by repeat' (first | with_reducible exact Below.refl _ _ | with_reducible assumption | with_reducible apply Below.drew | with_reducible apply below_drewN | with_reducible apply Below.alloc | with_reducible apply Below.setCell | (with_reducible refine Below.trans ?_ (Below.mono (by assumption) ?_)) | (simp; done) | (simp; omega) | omega | with_reducible apply le_size_alloc | with_reducible apply le_size_drewN | with_reducible apply le_size_drew | with_reducible apply le_size_setCell | refine Nat.le_trans ?_ (Below.size (by assumption))))⟩

set_option maxRecDepth 100000 in
set_option maxHeartbeats 2000000 in
theorem tflying_any (t : TL) (w : World) : Calls Tryz.prog 116 #[.agg (tlC t)] w fun e w' => e = .returned (.bool (decide (0 < t.wr) || decide (0 < t.orp))) ∧ Below w.heap.size w w' := by
  obtain ⟨b, hb⟩ : ∃ b, (decide (0 < t.wr) || decide (0 < t.orp)) = b := ⟨_, rfl⟩
  rw [hb]
  have HB := Lib.hid hb
  clear hb
  unfold tlC
  by_cases h1 : 0 < t.wr
  · skip
    go_enter Tryz.func116, Tryz.ntmps116
    go_wp2
    refine bodyPost_ret (v := .bool (true)) (by simp [results, Tryz.results116, go_sem]) rfl ?_
    exact ⟨ret_bool (by rw [← HB.out]; first | (simp [h1]; done) | (simp; omega)), (by repeat' (first | with_reducible exact Below.refl _ _ | with_reducible assumption | with_reducible apply Below.drew | with_reducible apply below_drewN | with_reducible apply Below.alloc | with_reducible apply Below.setCell | (with_reducible refine Below.trans ?_ (Below.mono (by assumption) ?_)) | (simp; done) | (simp; omega) | omega | with_reducible apply le_size_alloc | with_reducible apply le_size_drewN | with_reducible apply le_size_drew | with_reducible apply le_size_setCell | refine Nat.le_trans ?_ (Below.size (by assumption))))⟩
  · skip
    go_enter Tryz.func116, Tryz.ntmps116
    go_wp2
    refine bodyPost_ret (v := .bool (decide (0 < t.orp))) (by simp [results, Tryz.results116, go_sem]) rfl ?_
    exact ⟨ret_bool (by rw [← HB.out]; first | (simp [h1]; done) | (simp; omega)), (by repeat' (first | with_reducible exact Below.refl _ _ | with_reducible assumption | with_reducible apply Below.drew | with_reducible apply below_drewN | with_reducible apply Below.alloc | with_reducible apply Below.setCell | (with_reducible refine Below.trans ?_ (Below.mono (by assumption) ?_)) | (simp; done) | (simp; omega) | omega | with_reducible apply le_size_alloc | with_reducible apply le_size_drewN | with_reducible apply le_size_drew | with_reducible apply le_size_setCell | refine Nat.le_trans ?_ (Below.size (by assumption))))⟩

/-- What hinders a write: four answers. -/
def hinL (t : TL) : List Bool := [t.ac == 0 && t.ina == 0, t.wr == t.cp, t.rm == 0, t.sl == 0]
def hinN (t : TL) (k : Nat) : Nat := (((hinL t).take k).filter id).length
theorem hinN_next (t : TL) {k : Nat} {b : Bool} (h : (hinL t)[k]? = some b) : hinN t (k + 1) = hinN t k + if b then 1 else 0 := by
  unfold hinN
  obtain ⟨hk, e⟩ := List.getElem?_eq_some_iff.1 h
  rw [List.take_succ_eq_append_getElem hk, e, List.filter_append]
  cases b <;> simp
theorem hinN_le (t : TL) (k : Nat) : hinN t k ≤ 4 := by
  unfold hinN
  refine Nat.le_trans (List.length_filter_le _ _) ?_
  rw [List.length_take]
  simp [hinL]
  omega

set_option maxRecDepth 100000 in
set_option maxHeartbeats 16000000 in
theorem hinders_any (t : TL) (w : World) : Calls Tryz.prog 132 #[.agg (tlC t)] w fun e w' => (∃ A c, e = .returned (.slice A (hinN t 4) c)) ∧ Below w.heap.size w w' := by
  have M1 := tempty_any t; have M2 := tcapped_any t; have M3 := tcrowded_any t; have M4 := tfull_any t
  have s0 := hinN_next t (k := 0) rfl
  have s1 := hinN_next t (k := 1) rfl
  have s2 := hinN_next t (k := 2) rfl
  have s3 := hinN_next t (k := 3) rfl
  have z0 : hinN t 0 = 0 := rfl
  generalize (t.ac == 0 && t.ina == 0) = b1 at *
  generalize (t.wr == t.cp) = b2 at *
  generalize (t.rm == 0) = b3 at *
  generalize (t.sl == 0) = b4 at *
  have S0 := Lib.hid s0; have S1 := Lib.hid s1; have S2 := Lib.hid s2; have S3 := Lib.hid s3; have Z0 := Lib.hid z0
  clear s0 s1 s2 s3 z0
  unfold tlC at *
  go_enter Tryz.func132, Tryz.ntmps132
  go_wp2
  generalize Value.agg #[.int .i64 t.fr, .int .i64 t.mn, .int .i64 t.lw, .int .i64 t.hi, .bool t.aw, .int .i64 t.ob, .int .i64 t.ac, .int .i64 t.ina, .int .i64 t.tg, .bool t.rf, .int .i64 t.wr, .int .i64 t.cp, .int .i64 t.orp, .int .i64 t.rm, .int .i64 t.sl] = TV at *
  obtain ⟨W0, hW0⟩ : ∃ W0, w.alloc (.cells #[.int .i64 t.fr, .int .i64 t.mn, .int .i64 t.lw, .int .i64 t.hi, .bool t.aw, .int .i64 t.ob, .int .i64 t.ac, .int .i64 t.ina, .int .i64 t.tg, .bool t.rf, .int .i64 t.wr, .int .i64 t.cp, .int .i64 t.orp, .int .i64 t.rm, .int .i64 t.sl] 143) = W0 := ⟨_, rfl⟩
  have BW0 : Below w.heap.size w W0 := by rw [← hW0]; exact (by repeat' (first | with_reducible exact Below.refl _ _ | with_reducible assumption | with_reducible apply Below.drew | with_reducible apply below_drewN | with_reducible apply Below.alloc | with_reducible apply Below.setCell | (with_reducible refine Below.trans ?_ (Below.mono (by assumption) ?_)) | (simp; done) | (simp; omega) | omega | with_reducible apply le_size_alloc | with_reducible apply le_size_drewN | with_reducible apply le_size_drew | with_reducible apply le_size_setCell | refine Nat.le_trans ?_ (Below.size (by assumption))))
  have zW0 : W0.heap.size = w.heap.size + 1 := by rw [← hW0]; simp
  rw [hW0]
  obtain ⟨W1, hW1⟩ : ∃ W1, W0.alloc (.cells #[.int .i64 1, .func (.func 137) #[TV] #[], .int .i64 2, .func (.func 138) #[TV] #[], .int .i64 3, .func (.func 139) #[TV] #[], .int .i64 4, .func (.func 140) #[TV] #[]] 176) = W1 := ⟨_, rfl⟩
  have kH : Blk W1 (w.heap.size + 1) 176 #[.int .i64 1, .func (.func 137) #[TV] #[], .int .i64 2, .func (.func 138) #[TV] #[], .int .i64 3, .func (.func 139) #[TV] #[], .int .i64 4, .func (.func 140) #[TV] #[]] := by rw [← hW1]; exact Blk.new_ zW0.symm rfl
  have BW1 : Below w.heap.size w W1 := by rw [← hW1]; exact (by repeat' (first | with_reducible exact Below.refl _ _ | with_reducible assumption | with_reducible apply Below.drew | with_reducible apply below_drewN | with_reducible apply Below.alloc | with_reducible apply Below.setCell | (with_reducible refine Below.trans ?_ (Below.mono (by assumption) ?_)) | (simp; done) | (simp; omega) | omega | with_reducible apply le_size_alloc | with_reducible apply le_size_drewN | with_reducible apply le_size_drew | with_reducible apply le_size_setCell | refine Nat.le_trans ?_ (Below.size (by assumption))))
  rw [hW1]
  have zH := kH.lt
  clear hW0 hW1 zW0 BW0
  go_loopw [20, 3] (fun i s wr => ∃ (k : Int) (A : Option Addr) (c : Nat) (l : List Int), 0 ≤ k ∧ k ≤ 4 ∧ i = .int .i64 k ∧ s = .slice A l.length c ∧ Hid (l.length = hinN t k.toNat) ∧ Hid (OwnR intE wr W1.heap.size (.slice A l.length c) l) ∧ Below W1.heap.size W1 wr) (fun i _ _ => 4 - (intOf i).toNat)
  case atStart => exact ⟨0, none, 0, [], by omega, by omega, rfl, rfl, Z0.out.symm, OwnR.nil, Below.refl _ _⟩
  case round =>
    obtain ⟨k, A, c, l, k0, k4, rfl, rfl, HN, HO, hbw⟩ := hrel
    have kHw := kH.below_ hbw zH
    have zw := hbw.size
    have hl4 : l.length ≤ 4 := by rw [HN.out]; exact hinN_le t _
    obtain h | h | h | h | h : k = 0 ∨ k = 1 ∨ k = 2 ∨ k = 3 ∨ k = 4 := by omega
    · subst h
      have q0 := kHw.cell_ 0; have q1 := kHw.cell_ 1
      simp at q0 q1
      clear k0 k4
      by_cases hb : b1 = true
      · subst hb
        have HS : Hid ((l ++ [1]).length = hinN t 1) := by show _ = _; rw [S0.out, if_pos rfl, List.length_append, HN.out]; rfl
        go_wp2_with (first
          | (refine (M1 _).mono ?_; rintro e w2 ⟨rfl, hb2⟩; have z2 := hb2.size; simp at z2; have r0 : w2.cell? ⟨wr.heap.size, 0, none⟩ = some (.int .i64 1) := cell_keep hb2 (by simp) (by simp); have z3 : wr.heap.size < w2.heap.size := by omega)
          | (at_builtin; refine wpList_ownR intE rfl (.tmp 27) (.tmp 30) _ rfl rfl _ W1.heap.size (by simp; omega) A c l.length l rfl (HO.out.ext (by repeat' (first | with_reducible exact Below.refl _ _ | with_reducible assumption | with_reducible apply Below.drew | with_reducible apply below_drewN | with_reducible apply Below.alloc | with_reducible apply Below.setCell | (with_reducible refine Below.trans ?_ (Below.mono (by assumption) ?_)) | (simp; done) | (simp; omega) | omega | with_reducible apply le_size_alloc | with_reducible apply le_size_drewN | with_reducible apply le_size_drew | with_reducible apply le_size_setCell | refine Nat.le_trans ?_ (Below.size (by assumption))))) (some ⟨w2.heap.size, 0, none⟩) 1 1 [1] rfl (SR.of_blk (E := intE) (l := [1]) (t := 3) (Blk.new_ (by simp) rfl)) (by simp) (by simp; omega) rfl rfl ?_; intro A5 c5 w5 hO5 hb5 hg5))
        go_roundw
        case rel => exact ⟨1, A5, c5, l ++ [1], by omega, by omega, by go_num, by rw [List.length_append]; rfl, HS.out, hO5, (by repeat' (first | with_reducible exact Below.refl _ _ | with_reducible assumption | with_reducible apply Below.drew | with_reducible apply below_drewN | with_reducible apply Below.alloc | with_reducible apply Below.setCell | (with_reducible refine Below.trans ?_ (Below.mono (by assumption) ?_)) | (simp; done) | (simp; omega) | omega | with_reducible apply le_size_alloc | with_reducible apply le_size_drewN | with_reducible apply le_size_drew | with_reducible apply le_size_setCell | refine Nat.le_trans ?_ (Below.size (by assumption))))⟩
        case measure => simp [intOf]
      · have hb' : b1 = false := by simpa using hb
        subst hb'
        have HS : Hid (l.length = hinN t 1) := by show _ = _; rw [S0.out, if_neg (by decide), HN.out]; rfl
        clear hb
        go_wp2_with (refine (M1 _).mono ?_; rintro e w2 ⟨rfl, hb2⟩; have z2 := hb2.size; simp at z2)
        go_roundw
        case rel => exact ⟨1, A, c, l, by omega, by omega, by go_num, rfl, HS.out, HO.out.ext (by repeat' (first | with_reducible exact Below.refl _ _ | with_reducible assumption | with_reducible apply Below.drew | with_reducible apply below_drewN | with_reducible apply Below.alloc | with_reducible apply Below.setCell | (with_reducible refine Below.trans ?_ (Below.mono (by assumption) ?_)) | (simp; done) | (simp; omega) | omega | with_reducible apply le_size_alloc | with_reducible apply le_size_drewN | with_reducible apply le_size_drew | with_reducible apply le_size_setCell | refine Nat.le_trans ?_ (Below.size (by assumption)))), (by repeat' (first | with_reducible exact Below.refl _ _ | with_reducible assumption | with_reducible apply Below.drew | with_reducible apply below_drewN | with_reducible apply Below.alloc | with_reducible apply Below.setCell | (with_reducible refine Below.trans ?_ (Below.mono (by assumption) ?_)) | (simp; done) | (simp; omega) | omega | with_reducible apply le_size_alloc | with_reducible apply le_size_drewN | with_reducible apply le_size_drew | with_reducible apply le_size_setCell | refine Nat.le_trans ?_ (Below.size (by assumption))))⟩
        case measure => simp [intOf]
    · subst h
      have q0 := kHw.cell_ 2; have q1 := kHw.cell_ 3
      simp at q0 q1
      clear k0 k4
      by_cases hb : b2 = true
      · subst hb
        have HS : Hid ((l ++ [2]).length = hinN t 2) := by show _ = _; rw [S1.out, if_pos rfl, List.length_append, HN.out]; rfl
        go_wp2_with (first
          | (refine (M2 _).mono ?_; rintro e w2 ⟨rfl, hb2⟩; have z2 := hb2.size; simp at z2; have r0 : w2.cell? ⟨wr.heap.size, 0, none⟩ = some (.int .i64 2) := cell_keep hb2 (by simp) (by simp); have z3 : wr.heap.size < w2.heap.size := by omega)
          | (at_builtin; refine wpList_ownR intE rfl (.tmp 27) (.tmp 30) _ rfl rfl _ W1.heap.size (by simp; omega) A c l.length l rfl (HO.out.ext (by repeat' (first | with_reducible exact Below.refl _ _ | with_reducible assumption | with_reducible apply Below.drew | with_reducible apply below_drewN | with_reducible apply Below.alloc | with_reducible apply Below.setCell | (with_reducible refine Below.trans ?_ (Below.mono (by assumption) ?_)) | (simp; done) | (simp; omega) | omega | with_reducible apply le_size_alloc | with_reducible apply le_size_drewN | with_reducible apply le_size_drew | with_reducible apply le_size_setCell | refine Nat.le_trans ?_ (Below.size (by assumption))))) (some ⟨w2.heap.size, 0, none⟩) 1 1 [2] rfl (SR.of_blk (E := intE) (l := [2]) (t := 3) (Blk.new_ (by simp) rfl)) (by simp) (by simp; omega) rfl rfl ?_; intro A5 c5 w5 hO5 hb5 hg5))
        go_roundw
        case rel => exact ⟨2, A5, c5, l ++ [2], by omega, by omega, by go_num, by rw [List.length_append]; rfl, HS.out, hO5, (by repeat' (first | with_reducible exact Below.refl _ _ | with_reducible assumption | with_reducible apply Below.drew | with_reducible apply below_drewN | with_reducible apply Below.alloc | with_reducible apply Below.setCell | (with_reducible refine Below.trans ?_ (Below.mono (by assumption) ?_)) | (simp; done) | (simp; omega) | omega | with_reducible apply le_size_alloc | with_reducible apply le_size_drewN | with_reducible apply le_size_drew | with_reducible apply le_size_setCell | refine Nat.le_trans ?_ (Below.size (by assumption))))⟩
        case measure => simp [intOf]
      · have hb' : b2 = false := by simpa using hb
        subst hb'
        have HS : Hid (l.length = hinN t 2) := by show _ = _; rw [S1.out, if_neg (by decide), HN.out]; rfl
        clear hb
        go_wp2_with (refine (M2 _).mono ?_; rintro e w2 ⟨rfl, hb2⟩; have z2 := hb2.size; simp at z2)
        go_roundw
        case rel => exact ⟨2, A, c, l, by omega, by omega, by go_num, rfl, HS.out, HO.out.ext (by repeat' (first | with_reducible exact Below.refl _ _ | with_reducible assumption | with_reducible apply Below.drew | with_reducible apply below_drewN | with_reducible apply Below.alloc | with_reducible apply Below.setCell | (with_reducible refine Below.trans ?_ (Below.mono (by assumption) ?_)) | (simp; done) | (simp; omega) | omega | with_reducible apply le_size_alloc | with_reducible apply le_size_drewN | with_reducible apply le_size_drew | with_reducible apply le_size_setCell | refine Nat.le_trans ?_ (Below.size (by assumption)))), (by repeat' (first | with_reducible exact Below.refl _ _ | with_reducible assumption | with_reducible apply Below.drew | with_reducible apply below_drewN | with_reducible apply Below.alloc | with_reducible apply Below.setCell | (with_reducible refine Below.trans ?_ (Below.mono (by assumption) ?_)) | (simp; done) | (simp; omega) | omega | with_reducible apply le_size_alloc | with_reducible apply le_size_drewN | with_reducible apply le_size_drew | with_reducible apply le_size_setCell | refine Nat.le_trans ?_ (Below.size (by assumption))))⟩
        case measure => simp [intOf]
    · subst h
      have q0 := kHw.cell_ 4; have q1 := kHw.cell_ 5
      simp at q0 q1
      clear k0 k4
      by_cases hb : b3 = true
      · subst hb
        have HS : Hid ((l ++ [3]).length = hinN t 3) := by show _ = _; rw [S2.out, if_pos rfl, List.length_append, HN.out]; rfl
        go_wp2_with (first
          | (refine (M3 _).mono ?_; rintro e w2 ⟨rfl, hb2⟩; have z2 := hb2.size; simp at z2; have r0 : w2.cell? ⟨wr.heap.size, 0, none⟩ = some (.int .i64 3) := cell_keep hb2 (by simp) (by simp); have z3 : wr.heap.size < w2.heap.size := by omega)
          | (at_builtin; refine wpList_ownR intE rfl (.tmp 27) (.tmp 30) _ rfl rfl _ W1.heap.size (by simp; omega) A c l.length l rfl (HO.out.ext (by repeat' (first | with_reducible exact Below.refl _ _ | with_reducible assumption | with_reducible apply Below.drew | with_reducible apply below_drewN | with_reducible apply Below.alloc | with_reducible apply Below.setCell | (with_reducible refine Below.trans ?_ (Below.mono (by assumption) ?_)) | (simp; done) | (simp; omega) | omega | with_reducible apply le_size_alloc | with_reducible apply le_size_drewN | with_reducible apply le_size_drew | with_reducible apply le_size_setCell | refine Nat.le_trans ?_ (Below.size (by assumption))))) (some ⟨w2.heap.size, 0, none⟩) 1 1 [3] rfl (SR.of_blk (E := intE) (l := [3]) (t := 3) (Blk.new_ (by simp) rfl)) (by simp) (by simp; omega) rfl rfl ?_; intro A5 c5 w5 hO5 hb5 hg5))
        go_roundw
        case rel => exact ⟨3, A5, c5, l ++ [3], by omega, by omega, by go_num, by rw [List.length_append]; rfl, HS.out, hO5, (by repeat' (first | with_reducible exact Below.refl _ _ | with_reducible assumption | with_reducible apply Below.drew | with_reducible apply below_drewN | with_reducible apply Below.alloc | with_reducible apply Below.setCell | (with_reducible refine Below.trans ?_ (Below.mono (by assumption) ?_)) | (simp; done) | (simp; omega) | omega | with_reducible apply le_size_alloc | with_reducible apply le_size_drewN | with_reducible apply le_size_drew | with_reducible apply le_size_setCell | refine Nat.le_trans ?_ (Below.size (by assumption))))⟩
        case measure => simp [intOf]
      · have hb' : b3 = false := by simpa using hb
        subst hb'
        have HS : Hid (l.length = hinN t 3) := by show _ = _; rw [S2.out, if_neg (by decide), HN.out]; rfl
        clear hb
        go_wp2_with (refine (M3 _).mono ?_; rintro e w2 ⟨rfl, hb2⟩; have z2 := hb2.size; simp at z2)
        go_roundw
        case rel => exact ⟨3, A, c, l, by omega, by omega, by go_num, rfl, HS.out, HO.out.ext (by repeat' (first | with_reducible exact Below.refl _ _ | with_reducible assumption | with_reducible apply Below.drew | with_reducible apply below_drewN | with_reducible apply Below.alloc | with_reducible apply Below.setCell | (with_reducible refine Below.trans ?_ (Below.mono (by assumption) ?_)) | (simp; done) | (simp; omega) | omega | with_reducible apply le_size_alloc | with_reducible apply le_size_drewN | with_reducible apply le_size_drew | with_reducible apply le_size_setCell | refine Nat.le_trans ?_ (Below.size (by assumption)))), (by repeat' (first | with_reducible exact Below.refl _ _ | with_reducible assumption | with_reducible apply Below.drew | with_reducible apply below_drewN | with_reducible apply Below.alloc | with_reducible apply Below.setCell | (with_reducible refine Below.trans ?_ (Below.mono (by assumption) ?_)) | (simp; done) | (simp; omega) | omega | with_reducible apply le_size_alloc | with_reducible apply le_size_drewN | with_reducible apply le_size_drew | with_reducible apply le_size_setCell | refine Nat.le_trans ?_ (Below.size (by assumption))))⟩
        case measure => simp [intOf]
    · subst h
      have q0 := kHw.cell_ 6; have q1 := kHw.cell_ 7
      simp at q0 q1
      clear k0 k4
      by_cases hb : b4 = true
      · subst hb
        have HS : Hid ((l ++ [4]).length = hinN t 4) := by show _ = _; rw [S3.out, if_pos rfl, List.length_append, HN.out]; rfl
        go_wp2_with (first
          | (refine (M4 _).mono ?_; rintro e w2 ⟨rfl, hb2⟩; have z2 := hb2.size; simp at z2; have r0 : w2.cell? ⟨wr.heap.size, 0, none⟩ = some (.int .i64 4) := cell_keep hb2 (by simp) (by simp); have z3 : wr.heap.size < w2.heap.size := by omega)
          | (at_builtin; refine wpList_ownR intE rfl (.tmp 27) (.tmp 30) _ rfl rfl _ W1.heap.size (by simp; omega) A c l.length l rfl (HO.out.ext (by repeat' (first | with_reducible exact Below.refl _ _ | with_reducible assumption | with_reducible apply Below.drew | with_reducible apply below_drewN | with_reducible apply Below.alloc | with_reducible apply Below.setCell | (with_reducible refine Below.trans ?_ (Below.mono (by assumption) ?_)) | (simp; done) | (simp; omega) | omega | with_reducible apply le_size_alloc | with_reducible apply le_size_drewN | with_reducible apply le_size_drew | with_reducible apply le_size_setCell | refine Nat.le_trans ?_ (Below.size (by assumption))))) (some ⟨w2.heap.size, 0, none⟩) 1 1 [4] rfl (SR.of_blk (E := intE) (l := [4]) (t := 3) (Blk.new_ (by simp) rfl)) (by simp) (by simp; omega) rfl rfl ?_; intro A5 c5 w5 hO5 hb5 hg5))
        go_roundw
        case rel => exact ⟨4, A5, c5, l ++ [4], by omega, by omega, by go_num, by rw [List.length_append]; rfl, HS.out, hO5, (by repeat' (first | with_reducible exact Below.refl _ _ | with_reducible assumption | with_reducible apply Below.drew | with_reducible apply below_drewN | with_reducible apply Below.alloc | with_reducible apply Below.setCell | (with_reducible refine Below.trans ?_ (Below.mono (by assumption) ?_)) | (simp; done) | (simp; omega) | omega | with_reducible apply le_size_alloc | with_reducible apply le_size_drewN | with_reducible apply le_size_drew | with_reducible apply le_size_setCell | refine Nat.le_trans ?_ (Below.size (by assumption))))⟩
        case measure => simp [intOf]
      · have hb' : b4 = false := by simpa using hb
        subst hb'
        have HS : Hid (l.length = hinN t 4) := by show _ = _; rw [S3.out, if_neg (by decide), HN.out]; rfl
        clear hb
        go_wp2_with (refine (M4 _).mono ?_; rintro e w2 ⟨rfl, hb2⟩; have z2 := hb2.size; simp at z2)
        go_roundw
        case rel => exact ⟨4, A, c, l, by omega, by omega, by go_num, rfl, HS.out, HO.out.ext (by repeat' (first | with_reducible exact Below.refl _ _ | with_reducible assumption | with_reducible apply Below.drew | with_reducible apply below_drewN | with_reducible apply Below.alloc | with_reducible apply Below.setCell | (with_reducible refine Below.trans ?_ (Below.mono (by assumption) ?_)) | (simp; done) | (simp; omega) | omega | with_reducible apply le_size_alloc | with_reducible apply le_size_drewN | with_reducible apply le_size_drew | with_reducible apply le_size_setCell | refine Nat.le_trans ?_ (Below.size (by assumption)))), (by repeat' (first | with_reducible exact Below.refl _ _ | with_reducible assumption | with_reducible apply Below.drew | with_reducible apply below_drewN | with_reducible apply Below.alloc | with_reducible apply Below.setCell | (with_reducible refine Below.trans ?_ (Below.mono (by assumption) ?_)) | (simp; done) | (simp; omega) | omega | with_reducible apply le_size_alloc | with_reducible apply le_size_drewN | with_reducible apply le_size_drew | with_reducible apply le_size_setCell | refine Nat.le_trans ?_ (Below.size (by assumption))))⟩
        case measure => simp [intOf]
    · subst h
      have HS : Hid (hinN t 4 = l.length) := HN.out.symm
      clear k0 k4
      go_wp2
      refine bodyPost_ret (v := .slice A l.length c) (by simp [results, Tryz.results132, go_sem]) rfl ?_
      exact ⟨⟨A, c, by rw [HS.out]⟩, (by repeat' (first | with_reducible exact Below.refl _ _ | with_reducible assumption | with_reducible apply Below.drew | with_reducible apply below_drewN | with_reducible apply Below.alloc | with_reducible apply Below.setCell | (with_reducible refine Below.trans ?_ (Below.mono (by assumption) ?_)) | (simp; done) | (simp; omega) | omega | with_reducible apply le_size_alloc | with_reducible apply le_size_drewN | with_reducible apply le_size_drew | with_reducible apply le_size_setCell | refine Nat.le_trans ?_ (Below.size (by assumption))))⟩

/-- May a frame be written out? -/
def wrtB (t : TL) : Bool := hinN t 4 == 0
set_option maxRecDepth 100000 in
set_option maxHeartbeats 2000000 in
theorem writable_any (t : TL) (w : World) : Calls Tryz.prog 115 #[.agg (tlC t)] w fun e w' => e = .returned (.bool (wrtB t)) ∧ Below w.heap.size w w' := by
  have hH := hinders_any t
  obtain ⟨n, hn⟩ : ∃ n, hinN t 4 = n := ⟨_, rfl⟩
  have HW : Hid (wrtB t = (n == 0)) := by show _ = _; unfold wrtB; rw [hn]
  rw [hn] at hH
  clear hn
  unfold tlC at *
  by_cases h0 : n = 0
  · subst h0
    go_enter Tryz.func115, Tryz.ntmps115
    go_wp2_with (refine (hH _).mono ?_; rintro e w1 ⟨⟨A, c, rfl⟩, hb1⟩)
    refine bodyPost_ret (v := .bool true) (by simp [results, Tryz.results115, go_sem]) rfl ?_
    exact ⟨ret_bool (by rw [HW.out]; rfl), (by repeat' (first | with_reducible exact Below.refl _ _ | with_reducible assumption | with_reducible apply Below.drew | with_reducible apply below_drewN | with_reducible apply Below.alloc | with_reducible apply Below.setCell | (with_reducible refine Below.trans ?_ (Below.mono (by assumption) ?_)) | (simp; done) | (simp; omega) | omega | with_reducible apply le_size_alloc | with_reducible apply le_size_drewN | with_reducible apply le_size_drew | with_reducible apply le_size_setCell | refine Nat.le_trans ?_ (Below.size (by assumption))))⟩
  · have hb : ((n : Int) == 0) = false := by simpa using h0
    have hb2 : (n == 0) = false := by simpa using h0
    have HB2 := Lib.hid hb2
    clear h0 hb2
    go_enter Tryz.func115, Tryz.ntmps115
    go_wp2_with (refine (hH _).mono ?_; rintro e w1 ⟨⟨A, c, rfl⟩, hb1⟩)
    refine bodyPost_ret (v := .bool false) (by simp [results, Tryz.results115, go_sem]) rfl ?_
    exact ⟨ret_bool (by rw [HW.out, HB2.out]), (by repeat' (first | with_reducible exact Below.refl _ _ | with_reducible assumption | with_reducible apply Below.drew | with_reducible apply below_drewN | with_reducible apply Below.alloc | with_reducible apply Below.setCell | (with_reducible refine Below.trans ?_ (Below.mono (by assumption) ?_)) | (simp; done) | (simp; omega) | omega | with_reducible apply le_size_alloc | with_reducible apply le_size_drewN | with_reducible apply le_size_drew | with_reducible apply le_size_setCell | refine Nat.le_trans ?_ (Below.size (by assumption))))⟩
end Go.Proofs.YtmbpjafiinfkkaaGreatDoor
