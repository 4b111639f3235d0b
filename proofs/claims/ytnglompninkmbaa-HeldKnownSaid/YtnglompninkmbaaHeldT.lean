/- Contracts of headgateref19: Add, Find, Remove. -/
import Derived.Test.YtnglompninkmbaaHeldR
import Derived.Test.YtnglompninkmbaaHeldD
namespace Go.Proofs.Ytnglompninkmbaa
open Go.RowKit Go.Maps

theorem okW_two (s f : Int) : okW (s, f, 0) = true ↔ (0 ≤ s ∧ s < 256) ∧ (0 ≤ f ∧ f < 256) := by rw [okW_iff]; simp
theorem add_ask {l : List Wr} {s f z : Int} (h : askS l s f 1 = z) (hz : z ≠ 0) : addS l s f = ([], z) := by
  unfold askS at h
  unfold addS
  by_cases h0 : (chkS l).1 ≠ 0
  · rw [if_pos h0] at h
    rw [if_pos h0, h]
  · rw [if_neg h0] at h
    rw [if_neg h0]
    by_cases h1 : (0 ≤ s ∧ s < 256) ∧ (0 ≤ f ∧ f < 256)
    · rw [if_pos ⟨(okW_two s f).2 h1, by decide⟩] at h
      exact absurd h.symm hz
    · rw [if_neg (fun h => h1 ((okW_two s f).1 h.1))] at h
      rw [if_neg h1, h]
theorem add_go {l : List Wr} {s f : Int} (h : askS l s f 1 = 0) : addS l s f = (if hit l (s, f, 0) then ([], 7) else if 16 ≤ l.length then ([], 5) else (l ++ [(s, f, 0)], 0)) ∧ l.length ≤ 16 := by
  unfold askS at h
  unfold addS
  by_cases h0 : (chkS l).1 ≠ 0
  · rw [if_pos h0] at h
    exact absurd h h0
  · rw [if_neg h0] at h
    by_cases h1 : (0 ≤ s ∧ s < 256) ∧ (0 ≤ f ∧ f < 256)
    · rw [if_neg h0, if_pos h1]
      exact ⟨rfl, (chkS_ok.1 (by simpa using h0)).1⟩
    · rw [if_neg (fun h => h1 ((okW_two s f).1 h.1))] at h
      cases h
theorem fnd_ask {l : List Wr} {s z : Int} (h : askS l s 0 1 = z) (hz : z ≠ 0) : findS l s = (0, z) := by
  unfold askS at h
  unfold findS
  by_cases h0 : (chkS l).1 ≠ 0
  · rw [if_pos h0] at h
    rw [if_pos h0, h]
  · rw [if_neg h0] at h
    rw [if_neg h0]
    by_cases h1 : 0 ≤ s ∧ s < 256
    · rw [if_pos ⟨(okW_two s 0).2 ⟨h1, by decide⟩, by decide⟩] at h
      exact absurd h.symm hz
    · rw [if_neg (fun h => h1 ((okW_two s 0).1 h.1).1)] at h
      rw [if_neg h1, h]
theorem fnd_go {l : List Wr} {s : Int} (h : askS l s 0 1 = 0) : findS l s = (match l.findIdx? (fun x => decide (x.1 = s)) with | none => (0, 6) | some i => (i, 0)) := by
  unfold askS at h
  unfold findS
  by_cases h0 : (chkS l).1 ≠ 0
  · rw [if_pos h0] at h
    exact absurd h h0
  · rw [if_neg h0] at h
    by_cases h1 : 0 ≤ s ∧ s < 256
    · rw [if_neg h0, if_pos h1]
      cases l.findIdx? (fun x => decide (x.1 = s)) <;> rfl
    · rw [if_neg (fun h => h1 ((okW_two s 0).1 h.1).1)] at h
      cases h

set_option maxRecDepth 100000 in
set_option maxHeartbeats 4000000 in
theorem RAdd_any (A : Option Addr) (c : Nat) (l : List Wr) (s f : Int) (w : World) (ha : SW w A l) (la : l.length ≤ 1000) :
    Calls Try.prog 19 #[.slice A l.length c, .int .i64 s, .int .i64 f] w (AddPost (addS l s f) w) := by
  have HA := Lib.hid ha
  clear ha
  obtain ⟨z, hz⟩ : ∃ z, askS l s f 1 = z := ⟨_, rfl⟩
  by_cases h0 : z = 0
  · subst h0
    obtain ⟨hadd, hl16⟩ := add_go hz
    have HZ := Lib.hid hz; have HADD := Lib.hid hadd
    clear hz hadd
    go_enter Try.func19, Try.ntmps19
    go_wp2_with (first | (go_at_call 39; with_reducible refine (asks_any _ _ _ _ _ _ _ HA.out la HZ.out).mono ?_; rintro e w1 ⟨rfl, hb1⟩))
    have H1 : Hid (SW w1 A l) := HA.out.ext hb1
    go_loopw [9] (fun i wr => ∃ k : Nat, k ≤ l.length ∧ i = .int .i64 k ∧ Hid (hit (l.take k) (s, f, 0) = false) ∧ Below w1.heap.size w1 wr) (fun i _ => l.length - (intOf i).toNat)
    case atStart => exact ⟨0, by omega, rfl, by show _ = _; simp [hit], Below.refl _ _⟩
    case round =>
      obtain ⟨k, hk, rfl, HR, hbw⟩ := hrel
      by_cases hlt : k < l.length
      · obtain ⟨b, off, x, rfl, hbl, hx, q0, q1, q2⟩ := (H1.out.ext hbw).at_ hlt
        have i1 : (k : Int) < l.length := by omega
        have HT : Hid (hit (l.take (k + 1)) (s, f, 0) = (decide (x.1 = s) || decide (x.2.1 = f))) := by
          show _ = _
          obtain ⟨hk', rfl⟩ := List.getElem?_eq_some_iff.1 hx
          rw [List.take_succ_eq_append_getElem hk', hit_one, HR.out]
          simp
        have hret : hit (l.take (k + 1)) (s, f, 0) = true → addS l s f = ([], 7) := fun h => by
          have hm := hit_mono (j := l.length) (by omega) h
          rw [List.take_length] at hm
          rw [HADD.out, if_pos hm]
        clear hx
        by_cases e1 : x.1 = s
        · have e1b : (x.1 == s) = true := by simpa using e1
          have E1 := Lib.hid e1
          clear e1
          go_wp2
          refine bodyPost_ret (v := .tuple #[.slice none 0 0, .int .i64 7]) (by simp [results, Try.results19, go_sem]) rfl ?_
          exact AddPost.bad (hret (by rw [HT.out]; have := E1.out; simp [this])) (hb1.trans ((show Below w1.heap.size w1 _ from (by repeat' (first | with_reducible exact Below.refl _ _ | with_reducible assumption | with_reducible apply Below.drew | with_reducible apply below_drewN | with_reducible apply Below.alloc | with_reducible apply Below.setCell | (with_reducible refine Below.trans ?_ (Below.mono (by assumption) ?_)) | (simp; done) | (simp; omega) | omega | with_reducible apply le_size_alloc | with_reducible apply le_size_drewN | with_reducible apply le_size_drew | with_reducible apply le_size_setCell | refine Nat.le_trans ?_ (Below.size (by assumption))))).mono hb1.size))
        · have e1b : (x.1 == s) = false := by simpa using e1
          by_cases e2 : x.2.1 = f
          · have e2b : (x.2.1 == f) = true := by simpa using e2
            have E2 := Lib.hid e2
            clear e2
            go_wp2
            refine bodyPost_ret (v := .tuple #[.slice none 0 0, .int .i64 7]) (by simp [results, Try.results19, go_sem]) rfl ?_
            exact AddPost.bad (hret (by rw [HT.out]; have := E2.out; simp [this])) (hb1.trans ((show Below w1.heap.size w1 _ from (by repeat' (first | with_reducible exact Below.refl _ _ | with_reducible assumption | with_reducible apply Below.drew | with_reducible apply below_drewN | with_reducible apply Below.alloc | with_reducible apply Below.setCell | (with_reducible refine Below.trans ?_ (Below.mono (by assumption) ?_)) | (simp; done) | (simp; omega) | omega | with_reducible apply le_size_alloc | with_reducible apply le_size_drewN | with_reducible apply le_size_drew | with_reducible apply le_size_setCell | refine Nat.le_trans ?_ (Below.size (by assumption))))).mono hb1.size))
          · have e2b : (x.2.1 == f) = false := by simpa using e2
            go_wp2
            go_roundw
            case rel => exact ⟨k + 1, by omega, by go_num, by show _ = _; rw [HT.out]; simp [e1, e2], (by repeat' (first | with_reducible exact Below.refl _ _ | with_reducible assumption | with_reducible apply Below.drew | with_reducible apply below_drewN | with_reducible apply Below.alloc | with_reducible apply Below.setCell | (with_reducible refine Below.trans ?_ (Below.mono (by assumption) ?_)) | (simp; done) | (simp; omega) | omega | with_reducible apply le_size_alloc | with_reducible apply le_size_drewN | with_reducible apply le_size_drew | with_reducible apply le_size_setCell | refine Nat.le_trans ?_ (Below.size (by assumption))))⟩
            case measure => simp [intOf]; omega
      · have hh : hit l (s, f, 0) = false := by have := HR.out; rwa [List.take_of_length_le (by omega)] at this
        have HADD' := HADD.out
        rw [hh, if_neg (by simp)] at HADD'
        clear hh
        have hbw1 : Below w.heap.size w wr := hb1.trans (hbw.mono hb1.size)
        by_cases h16 : l.length = 16
        · rw [if_pos (by omega)] at HADD'
          have HADD2 := Lib.hid HADD'
          have h16' : (l.length : Int) = 16 := by omega
          clear HADD'
          go_wp2
          refine bodyPost_ret (v := .tuple #[.slice none 0 0, .int .i64 5]) (by simp [results, Try.results19, go_sem]) rfl ?_
          exact AddPost.bad HADD2.out hbw1
        · rw [if_neg (by omega)] at HADD'
          have HADD2 := Lib.hid HADD'
          have h16' : ((l.length : Int) == 16) = false := beq_eq_false_iff_ne.2 (by omega)
          clear HADD'
          go_wp2_with (first | (go_at_call 40; with_reducible refine (rown_any _ _ _ _ (H1.out.ext hbw) la).mono ?_; rintro e w2 ⟨A2, c2, rfl, hc2, hm2, hb2⟩) | (at_builtin; refine wpList_appW rfl (.tmp 43) (.tmp 47) rfl _ wr.heap.size ?_ A2 c2 l.length l rfl (hc2.ext ?_) _ 1 1 [(s, f, 0)] rfl (SW.one (t := 28) ?_) (by simp; omega) rfl rfl ?_; (exact Nat.le_trans hb2.size (by simp)); (exact (by repeat' (first | with_reducible exact Below.refl _ _ | with_reducible assumption | with_reducible apply Below.drew | with_reducible apply below_drewN | with_reducible apply Below.alloc | with_reducible apply Below.setCell | (with_reducible refine Below.trans ?_ (Below.mono (by assumption) ?_)) | (simp; done) | (simp; omega) | omega | with_reducible apply le_size_alloc | with_reducible apply le_size_drewN | with_reducible apply le_size_drew | with_reducible apply le_size_setCell | refine Nat.le_trans ?_ (Below.size (by assumption))))); (exact (by repeat' (first | with_reducible assumption | (with_reducible refine Blk.new_ ?_ ?_ <;> first | (simp; done) | rfl) | with_reducible apply Blk.drew_ | with_reducible apply Blk.drewN_ | with_reducible apply Blk.alloc_ | with_reducible refine Blk.far_ ?_ ?_ _ | (with_reducible refine Blk.below_ ?_ (by assumption) ?_) | (simp; done) | (simp; omega) | omega | with_reducible apply le_size_alloc | with_reducible apply lt_size_alloc | with_reducible apply le_size_drewN | with_reducible apply le_size_drew | with_reducible apply le_size_setCell | refine Nat.lt_of_lt_of_le ?_ (Below.size (by assumption)) | refine Nat.le_trans ?_ (Below.size (by assumption))))); intro A3 c3 w3 hc3 hb3 _))
          have hb23 : Below wr.heap.size wr w3 := hb2.trans ((show Below wr.heap.size w2 w3 from (by repeat' (first | with_reducible exact Below.refl _ _ | with_reducible assumption | with_reducible apply Below.drew | with_reducible apply below_drewN | with_reducible apply Below.alloc | with_reducible apply Below.setCell | (with_reducible refine Below.trans ?_ (Below.mono (by assumption) ?_)) | (simp; done) | (simp; omega) | omega | with_reducible apply le_size_alloc | with_reducible apply le_size_drewN | with_reducible apply le_size_drew | with_reducible apply le_size_setCell | refine Nat.le_trans ?_ (Below.size (by assumption))))))
          refine bodyPost_ret (v := .tuple #[.slice A3 (l.length + 1) c3, .int .i64 0]) (by simp [results, Try.results19, go_sem]) rfl ?_
          unfold AddPost
          rw [HADD2.out]
          exact ⟨A3, c3, by simp, hc3.cw, hbw1.trans (hb23.mono hbw1.size)⟩
  · have hzb : (z != 0) = true := by simpa using h0
    have HADD := Lib.hid (add_ask hz h0)
    have HZ := Lib.hid hz
    clear hz
    go_enter Try.func19, Try.ntmps19
    go_wp2_with (first | (go_at_call 39; with_reducible refine (asks_any _ _ _ _ _ _ _ HA.out la HZ.out).mono ?_; rintro e w1 ⟨rfl, hb1⟩))
    refine bodyPost_ret (v := .tuple #[.slice none 0 0, .int .i64 z]) (by simp [results, Try.results19, go_sem]) rfl ?_
    exact AddPost.bad HADD.out hb1

set_option maxRecDepth 100000 in
set_option maxHeartbeats 4000000 in
theorem RFind_any (A : Option Addr) (c : Nat) (l : List Wr) (s : Int) (w : World) (ha : SW w A l) (la : l.length ≤ 1000) {n : Nat} {z : Int} (h : findS l s = (n, z)) :
    Calls Try.prog 21 #[.slice A l.length c, .int .i64 s] w fun e w' => e = .returned (.tuple #[.int .i64 n, .int .i64 z]) ∧ Below w.heap.size w w' := by
  have HA := Lib.hid ha
  clear ha
  obtain ⟨y, hy⟩ : ∃ y, askS l s 0 1 = y := ⟨_, rfl⟩
  by_cases h0 : y = 0
  · subst h0
    have hf := fnd_go hy
    rw [h] at hf
    have HY := Lib.hid hy
    clear hy
    cases hi : l.findIdx? (fun x => decide (x.1 = s)) with
    | none =>
      rw [hi] at hf
      obtain ⟨rfl, rfl⟩ := Prod.mk.inj hf
      have HR : Hid (rfnS l s = -1) := by show _ = _; unfold rfnS; rw [hi]
      clear hf h hi
      go_enter Try.func21, Try.ntmps21
      go_wp2_with (first | (go_at_call 39; with_reducible refine (asks_any _ _ _ _ _ _ _ HA.out la HY.out).mono ?_; rintro e w1 ⟨rfl, hb1⟩) | (go_at_call 41; with_reducible refine (rfind_any _ _ _ _ _ (HA.out.ext hb1) la).mono ?_; rw [HR.out]; rintro e w2 ⟨rfl, hb2⟩))
      refine bodyPost_ret (v := .tuple #[.int .i64 (0 : Nat), .int .i64 6]) (by simp [results, Try.results21, go_sem]) rfl ?_
      exact ⟨rfl, (by repeat' (first | with_reducible exact Below.refl _ _ | with_reducible assumption | with_reducible apply Below.drew | with_reducible apply below_drewN | with_reducible apply Below.alloc | with_reducible apply Below.setCell | (with_reducible refine Below.trans ?_ (Below.mono (by assumption) ?_)) | (simp; done) | (simp; omega) | omega | with_reducible apply le_size_alloc | with_reducible apply le_size_drewN | with_reducible apply le_size_drew | with_reducible apply le_size_setCell | refine Nat.le_trans ?_ (Below.size (by assumption))))⟩
    | some k =>
      rw [hi] at hf
      obtain ⟨rfl, rfl⟩ := Prod.mk.inj hf
      have HR : Hid (rfnS l s = (n : Int)) := by show _ = _; unfold rfnS; rw [hi]
      clear hf h hi
      go_enter Try.func21, Try.ntmps21
      go_wp2_with (first | (go_at_call 39; with_reducible refine (asks_any _ _ _ _ _ _ _ HA.out la HY.out).mono ?_; rintro e w1 ⟨rfl, hb1⟩) | (go_at_call 41; with_reducible refine (rfind_any _ _ _ _ _ (HA.out.ext hb1) la).mono ?_; rw [HR.out]; rintro e w2 ⟨rfl, hb2⟩))
      refine bodyPost_ret (v := .tuple #[.int .i64 n, .int .i64 0]) (by simp [results, Try.results21, go_sem]) rfl ?_
      exact ⟨rfl, (by repeat' (first | with_reducible exact Below.refl _ _ | with_reducible assumption | with_reducible apply Below.drew | with_reducible apply below_drewN | with_reducible apply Below.alloc | with_reducible apply Below.setCell | (with_reducible refine Below.trans ?_ (Below.mono (by assumption) ?_)) | (simp; done) | (simp; omega) | omega | with_reducible apply le_size_alloc | with_reducible apply le_size_drewN | with_reducible apply le_size_drew | with_reducible apply le_size_setCell | refine Nat.le_trans ?_ (Below.size (by assumption))))⟩
  · have hf := fnd_ask hy h0
    rw [h] at hf
    obtain ⟨rfl, rfl⟩ := Prod.mk.inj hf
    have hyb : (z != 0) = true := by simpa using h0
    have HY := Lib.hid hy
    clear hf h hy
    go_enter Try.func21, Try.ntmps21
    go_wp2_with (first | (go_at_call 39; with_reducible refine (asks_any _ _ _ _ _ _ _ HA.out la HY.out).mono ?_; rintro e w1 ⟨rfl, hb1⟩))
    refine bodyPost_ret (v := .tuple #[.int .i64 (0 : Nat), .int .i64 z]) (by simp [results, Try.results21, go_sem]) rfl ?_
    exact ⟨rfl, (by repeat' (first | with_reducible exact Below.refl _ _ | with_reducible assumption | with_reducible apply Below.drew | with_reducible apply below_drewN | with_reducible apply Below.alloc | with_reducible apply Below.setCell | (with_reducible refine Below.trans ?_ (Below.mono (by assumption) ?_)) | (simp; done) | (simp; omega) | omega | with_reducible apply le_size_alloc | with_reducible apply le_size_drewN | with_reducible apply le_size_drew | with_reducible apply le_size_setCell | refine Nat.le_trans ?_ (Below.size (by assumption))))⟩

set_option maxRecDepth 100000 in
set_option maxHeartbeats 4000000 in
theorem RRemove_any (A : Option Addr) (c : Nat) (l : List Wr) (s : Int) (w : World) (ha : CW w A c l) (la : l.length ≤ 1000) :
    Calls Try.prog 22 #[.slice A l.length c, .int .i64 s] w (RemPost (remS l s) w) := by
  have HA := Lib.hid ha
  have HS := Lib.hid ha.1
  have hlc := ha.2
  clear ha
  obtain ⟨⟨i, z⟩, hf⟩ : ∃ r, findS l s = r := ⟨_, rfl⟩
  by_cases hz : z = 0
  · subst hz
    have hi := findS_lt hf
    obtain ⟨b, off, x, rfl, hb, hx, hc0, hc1, hc2⟩ := HS.out.at_ hi
    have hF : Hid (remS l s = (l.take i ++ l.drop (i + 1), x, 0)) := by
      show _ = _
      unfold remS
      rw [hf, if_pos rfl, List.getD_eq_getElem?_getD, hx]
      rfl
    have h1 := run_pre (some ⟨b, off, none⟩) c l.length i (by omega) (by omega)
    have h2 := run_suf (some ⟨b, off, none⟩) c l.length ((i : Int) + 1) (by omega) (by omega)
    have e1 : ((i : Int)).toNat = i := by omega
    have e2 : ((i : Int) + 1).toNat = i + 1 := by omega
    rw [e1] at h1
    rw [e2] at h2
    have i1 : (i : Int) < l.length := by omega
    have i2 : (i : Int) ≤ 1000 := by omega
    have hwr : IntKind.i64.wrap ((i : Int) + 1) = (i : Int) + 1 := IntWalk.i64_in _ (by omega)
    have H1 := Lib.hid (HS.out.take i)
    have H2 := Lib.hid (HA.out.suf (i + 1) (by omega))
    obtain ⟨A2, hA2⟩ : ∃ A2, (if c = i + 1 then some ⟨b, off, none⟩ else (some (⟨b, off, none⟩ : Addr)).map (fun a => a.add ((i + 1) * 3))) = A2 := ⟨_, rfl⟩
    rw [hA2] at h2 H2
    have HF := Lib.hid hf; have HX := Lib.hid hx
    have hlen : (l.take i).length = i := by simp; omega
    have hlen2 : (l.take i).length ≤ 1000 := by omega
    have HOWN := fun (W : World) (h : SW W (some ⟨b, off, none⟩) (l.take i)) => rown_any (some ⟨b, off, none⟩) c (l.take i) W h hlen2
    rw [hlen] at HOWN
    have HO := Lib.hid HOWN
    clear hf hx hA2 HOWN
    go_enter Try.func22, Try.ntmps22
    go_wp2_with fail
    refine (RFind_any _ _ _ _ _ (HS.out.ext (by repeat' (first | with_reducible exact Below.refl _ _ | with_reducible assumption | with_reducible apply Below.drew | with_reducible apply below_drewN | with_reducible apply Below.alloc | with_reducible apply Below.setCell | (with_reducible refine Below.trans ?_ (Below.mono (by assumption) ?_)) | (simp; done) | (simp; omega) | omega | with_reducible apply le_size_alloc | with_reducible apply le_size_drewN | with_reducible apply le_size_drew | with_reducible apply le_size_setCell | refine Nat.le_trans ?_ (Below.size (by assumption))))) la HF.out).mono ?_
    rintro e w1 ⟨rfl, hb1⟩
    obtain ⟨⟨k0, k1, k2⟩, ⟨f0, f1, f2⟩, kl, hbw⟩ := box3 rfl hb1
    have hd0 : w1.cell? ⟨b, off + i * 3, none⟩ = some (.int .i64 x.1) := cell_keep hbw hc0 hb
    have hd1 : w1.cell? ⟨b, off + i * 3 + 1, none⟩ = some (.int .i64 x.2.1) := cell_keep hbw hc1 hb
    have hd2 : w1.cell? ⟨b, off + i * 3 + 2, none⟩ = some (.int .i64 x.2.2) := cell_keep hbw hc2 hb
    clear hb1
    go_wp2_with fail
    go_region_held3 (fun W => Below w.heap.size w W ∧ W.cell? ⟨b, off + i * 3, none⟩ = some (.int .i64 x.1) ∧ W.cell? ⟨b, off + i * 3 + 1, none⟩ = some (.int .i64 x.2.1) ∧ W.cell? ⟨b, off + i * 3 + 2, none⟩ = some (.int .i64 x.2.2))
      (exact held4 ((by repeat' (first | with_reducible exact Below.refl _ _ | with_reducible assumption | with_reducible apply Below.drew | with_reducible apply below_drewN | with_reducible apply Below.alloc | with_reducible apply Below.setCell | (with_reducible refine Below.trans ?_ (Below.mono (by assumption) ?_)) | (simp; done) | (simp; omega) | omega | with_reducible apply le_size_alloc | with_reducible apply le_size_drewN | with_reducible apply le_size_drew | with_reducible apply le_size_setCell | refine Nat.le_trans ?_ (Below.size (by assumption))))) hc0 hc1 hc2 hb)
      (first | (go_at_call 40; (with_reducible refine (HO.out _ ?_).mono ?_); (exact H1.out.ext (hbw.trans (Below.mono (B := w1.heap.size) ((by repeat' (first | with_reducible exact Below.refl _ _ | with_reducible assumption | with_reducible apply Below.drew | with_reducible apply below_drewN | with_reducible apply Below.alloc | with_reducible apply Below.setCell | (with_reducible refine Below.trans ?_ (Below.mono (by assumption) ?_)) | (simp; done) | (simp; omega) | omega | with_reducible apply le_size_alloc | with_reducible apply le_size_drewN | with_reducible apply le_size_drew | with_reducible apply le_size_setCell | refine Nat.le_trans ?_ (Below.size (by assumption))))) hbw.size))); rintro e w2 ⟨A3, c3, rfl, hc3, hm3, hb3⟩) | (refine step_appW rfl (.tmp 22) (.tmp 26) rfl _ w1.heap.size ?_ A3 c3 i (l.take i) hlen.symm (CanApp.ext hc3 ?_) A2 (c - (i + 1)) (l.length - (i + 1)) (l.drop (i + 1)) (by simp) (H2.out.1.ext ?_) (by simp; omega) rfl rfl ?_; (exact hb3.size); (exact (by repeat' (first | with_reducible exact Below.refl _ _ | with_reducible assumption | with_reducible apply Below.drew | with_reducible apply below_drewN | with_reducible apply Below.alloc | with_reducible apply Below.setCell | (with_reducible refine Below.trans ?_ (Below.mono (by assumption) ?_)) | (simp; done) | (simp; omega) | omega | with_reducible apply le_size_alloc | with_reducible apply le_size_drewN | with_reducible apply le_size_drew | with_reducible apply le_size_setCell | refine Nat.le_trans ?_ (Below.size (by assumption))))); (exact hbw.trans (Below.mono (B := w1.heap.size) ((by repeat' (first | with_reducible exact Below.refl _ _ | with_reducible assumption | with_reducible apply Below.drew | with_reducible apply below_drewN | with_reducible apply Below.alloc | with_reducible apply Below.setCell | (with_reducible refine Below.trans ?_ (Below.mono (by assumption) ?_)) | (simp; done) | (simp; omega) | omega | with_reducible apply le_size_alloc | with_reducible apply le_size_drewN | with_reducible apply le_size_drew | with_reducible apply le_size_setCell | refine Nat.le_trans ?_ (Below.size (by assumption))))) hbw.size)); intro A4 c4 w4 hc4 hb4 hm4; have hb4' : Below w1.heap.size w1 w4 := (by repeat' (first | with_reducible exact Below.refl _ _ | with_reducible assumption | with_reducible apply Below.drew | with_reducible apply below_drewN | with_reducible apply Below.alloc | with_reducible apply Below.setCell | (with_reducible refine Below.trans ?_ (Below.mono (by assumption) ?_)) | (simp; done) | (simp; omega) | omega | with_reducible apply le_size_alloc | with_reducible apply le_size_drewN | with_reducible apply le_size_drew | with_reducible apply le_size_setCell | refine Nat.le_trans ?_ (Below.size (by assumption)))); have g0 : w4.cell? ⟨w.heap.size, 0, none⟩ = some (.int .i64 0) := cell_keep hb4' k0 kl; have g1 : w4.cell? ⟨w.heap.size, 1, none⟩ = some (.int .i64 0) := cell_keep hb4' k1 kl; have g2 : w4.cell? ⟨w.heap.size, 2, none⟩ = some (.int .i64 0) := cell_keep hb4' k2 kl; have g3 : w4.frozen? ⟨w.heap.size, 0, none⟩ = false := frozen_keep hb4' f0 kl; have g4 : w4.frozen? ⟨w.heap.size, 1, none⟩ = false := frozen_keep hb4' f1 kl; have g5 : w4.frozen? ⟨w.heap.size, 2, none⟩ = false := frozen_keep hb4' f2 kl))
    all_goals
      obtain ⟨r0, r1, r2⟩ := cells3 g0 g1 g2 (.int .i64 x.1) (.int .i64 x.2.1) (.int .i64 x.2.2)
      have hM4 := hm4 hm3
      have hcap := hc4.cw.2
      have hsw := (((hM4.far 0 (.int .i64 x.1) kl).far 1 (.int .i64 x.2.1) kl).far 2 (.int .i64 x.2.2) kl).sw
      have hlast : Below w.heap.size w (((w4.setCell ⟨w.heap.size, 0, none⟩ (.int .i64 x.1)).setCell ⟨w.heap.size, 1, none⟩ (.int .i64 x.2.1)).setCell ⟨w.heap.size, 2, none⟩ (.int .i64 x.2.2)) := (by repeat' (first | with_reducible exact Below.refl _ _ | with_reducible assumption | with_reducible apply Below.drew | with_reducible apply below_drewN | with_reducible apply Below.alloc | with_reducible apply Below.setCell | (with_reducible refine Below.trans ?_ (Below.mono (by assumption) ?_)) | (simp; done) | (simp; omega) | omega | with_reducible apply le_size_alloc | with_reducible apply le_size_drewN | with_reducible apply le_size_drew | with_reducible apply le_size_setCell | refine Nat.le_trans ?_ (Below.size (by assumption))))
      have HH := Lib.hid (And.intro hsw (And.intro hcap hlast))
      clear hsw hcap hlast hM4 hm4
      go_wp2_with fail
      refine bodyPost_ret (v := .tuple #[.slice A4 (i + (l.length - (i + 1))) c4, .agg #[.int .i64 x.1, .int .i64 x.2.1, .int .i64 x.2.2], .int .i64 0]) (by simp [results, Try.results22, go_sem, r0, r1, r2]) rfl ?_
      unfold RemPost
      rw [hF.out]
      exact ⟨A4, c4, by simp [hlen], ⟨HH.out.1, HH.out.2.1⟩, HH.out.2.2⟩
  · have hF : Hid (remS l s = ([], (0, 0, 0), z)) := by show _ = _; unfold remS; rw [hf, if_neg hz]
    have hzb : (z != 0) = true := by simpa using hz
    have HK := Lib.hid hf
    clear hf
    go_enter Try.func22, Try.ntmps22
    go_wp2_with fail
    refine (RFind_any _ _ _ _ _ (HS.out.ext (by repeat' (first | with_reducible exact Below.refl _ _ | with_reducible assumption | with_reducible apply Below.drew | with_reducible apply below_drewN | with_reducible apply Below.alloc | with_reducible apply Below.setCell | (with_reducible refine Below.trans ?_ (Below.mono (by assumption) ?_)) | (simp; done) | (simp; omega) | omega | with_reducible apply le_size_alloc | with_reducible apply le_size_drewN | with_reducible apply le_size_drew | with_reducible apply le_size_setCell | refine Nat.le_trans ?_ (Below.size (by assumption))))) la HK.out).mono ?_
    rintro e w1 ⟨rfl, hb1⟩
    obtain ⟨⟨k0, k1, k2⟩, ⟨f0, f1, f2⟩, kl, hbw⟩ := box3 rfl hb1
    go_wp2_with fail
    refine bodyPost_ret (v := .tuple #[.slice none 0 0, .agg #[.int .i64 0, .int .i64 0, .int .i64 0], .int .i64 z]) (by simp [results, Try.results22, go_sem, k0, k1, k2]) rfl ?_
    unfold RemPost
    rw [hF.out]
    exact ⟨none, 0, rfl, CW.nil, (by repeat' (first | with_reducible exact Below.refl _ _ | with_reducible assumption | with_reducible apply Below.drew | with_reducible apply below_drewN | with_reducible apply Below.alloc | with_reducible apply Below.setCell | (with_reducible refine Below.trans ?_ (Below.mono (by assumption) ?_)) | (simp; done) | (simp; omega) | omega | with_reducible apply le_size_alloc | with_reducible apply le_size_drewN | with_reducible apply le_size_drew | with_reducible apply le_size_setCell | refine Nat.le_trans ?_ (Below.size (by assumption))))⟩
end Go.Proofs.Ytnglompninkmbaa
