/- Contracts of held.Add and held.Remove. -/
import Derived.Test.YtnglompninkmbaaHeldB
import Derived.Test.YtnglompninkmbaaHeldV
namespace Go.Proofs.Ytnglompninkmbaa
open Go.RowKit Go.Maps

theorem SW.one {w : World} {b : Nat} {t : TypeId} {s f k : Int} (h : Blk w b t #[.int .i64 s, .int .i64 f, .int .i64 k]) : SW w (some ⟨b, 0, none⟩) [(s, f, k)] := Sl.of_lit (xs := [s, f, k]) h
/-- What Add hands back. -/
def AddPost (R : List Wr × Int) (w : World) (e : Ending) (w' : World) : Prop :=
  ∃ A c, e = .returned (.tuple #[.slice A R.1.length c, .int .i64 R.2]) ∧ CW w' A c R.1 ∧ Below w.heap.size w w'
theorem AddPost.bad {R : List Wr × Int} {w w' : World} {z : Int} (h : R = ([], z)) (hb : Below w.heap.size w w') : AddPost R w (.returned (.tuple #[.slice none 0 0, .int .i64 z])) w' := by
  subst h
  exact ⟨none, 0, rfl, CW.nil, hb⟩

set_option maxRecDepth 100000 in
set_option maxHeartbeats 4000000 in
theorem Add_any (A : Option Addr) (c : Nat) (l : List Wr) (s f : Int) (w : World) (ha : CW w A c l) (la : l.length ≤ 1000) :
    Calls Try.prog 14 #[.slice A l.length c, .int .i64 s, .int .i64 f] w (AddPost (addS l s f) w) := by
  have HA := Lib.hid ha
  have HS := Lib.hid ha.1
  have hlc := ha.2
  clear ha
  by_cases hz : (chkS l).1 = 0
  · have HZ := Lib.hid hz
    cases d1 : decide (0 ≤ s ∧ s < 256) with
    | true =>
      have hs : 0 ≤ s ∧ s < 256 := by simpa using d1
      cases d2 : decide (0 ≤ f ∧ f < 256) with
      | true =>
        have hf : 0 ≤ f ∧ f < 256 := by simpa using d2
        cases hh : hit l (s, f, 0) with
        | true =>
          have hcl : clashM (mapOf l) s f 0 = true := (clash_hit l (s, f, 0)).trans hh
          have hF : Hid (addS l s f = ([], 7)) := by show _ = _; unfold addS; rw [if_neg (by simp [hz]), if_pos ⟨hs, hf⟩, if_pos hh]
          clear hs hf hz hh
          go_enter Try.func14, Try.ntmps14
          go_wp2_with (first | (go_at_call 35; with_reducible refine (isSlot_b _ _ d1 _).mono ?_; rintro e w' ⟨rfl, rfl⟩) | (go_at_call 36; with_reducible refine (isFrame_b _ _ d2 _).mono ?_; rintro e w' ⟨rfl, rfl⟩) | (go_at_call 34; with_reducible refine (read_good _ _ _ _ HS.out la HZ.out).mono ?_; rintro e w1 ⟨B, rfl, hB, hm, hb1⟩) | (go_at_call 37; with_reducible refine (add_c _ (mapOf l) _ _ _ _ _ ?_).mono ?_; (exact hm.below_ (C := w1.heap.size) (by repeat' (first | with_reducible exact Below.refl _ _ | with_reducible assumption | with_reducible apply Below.drew | with_reducible apply below_drewN | with_reducible apply Below.alloc | with_reducible apply Below.setCell | (with_reducible refine Below.trans ?_ (Below.mono (by assumption) ?_)) | (simp; done) | (simp; omega) | omega | with_reducible apply le_size_alloc | with_reducible apply le_size_drewN | with_reducible apply le_size_drew | with_reducible apply le_size_setCell | refine Nat.le_trans ?_ (Below.size (by assumption)))) hm.lt); (try unfold addIf); rw [hcl]; rintro e w2 ⟨rfl, hm1, hg1⟩))
          refine bodyPost_ret (v := .tuple #[.slice none 0 0, .int .i64 7]) (by simp [results, Try.results14, go_sem]) rfl ?_
          exact AddPost.bad hF.out (below_grown (by repeat' (first | with_reducible exact Below.refl _ _ | with_reducible assumption | with_reducible apply Below.drew | with_reducible apply below_drewN | with_reducible apply Below.alloc | with_reducible apply Below.setCell | (with_reducible refine Below.trans ?_ (Below.mono (by assumption) ?_)) | (simp; done) | (simp; omega) | omega | with_reducible apply le_size_alloc | with_reducible apply le_size_drewN | with_reducible apply le_size_drew | with_reducible apply le_size_setCell | refine Nat.le_trans ?_ (Below.size (by assumption)))) hg1 hB)
        | false =>
          have hcl : clashM (mapOf l) s f 0 = false := (clash_hit l (s, f, 0)).trans hh
          by_cases h16 : 16 ≤ l.length
          · have h16' : (16 : Int) ≤ l.length := by omega
            have hF : Hid (addS l s f = ([], 5)) := by show _ = _; unfold addS; rw [if_neg (by simp [hz]), if_pos ⟨hs, hf⟩, if_neg (by simp [hh]), if_pos h16]
            clear hs hf hz hh
            go_enter Try.func14, Try.ntmps14
            go_wp2_with (first | (go_at_call 35; with_reducible refine (isSlot_b _ _ d1 _).mono ?_; rintro e w' ⟨rfl, rfl⟩) | (go_at_call 36; with_reducible refine (isFrame_b _ _ d2 _).mono ?_; rintro e w' ⟨rfl, rfl⟩) | (go_at_call 34; with_reducible refine (read_good _ _ _ _ HS.out la HZ.out).mono ?_; rintro e w1 ⟨B, rfl, hB, hm, hb1⟩) | (go_at_call 37; with_reducible refine (add_c _ (mapOf l) _ _ _ _ _ ?_).mono ?_; (exact hm.below_ (C := w1.heap.size) (by repeat' (first | with_reducible exact Below.refl _ _ | with_reducible assumption | with_reducible apply Below.drew | with_reducible apply below_drewN | with_reducible apply Below.alloc | with_reducible apply Below.setCell | (with_reducible refine Below.trans ?_ (Below.mono (by assumption) ?_)) | (simp; done) | (simp; omega) | omega | with_reducible apply le_size_alloc | with_reducible apply le_size_drewN | with_reducible apply le_size_drew | with_reducible apply le_size_setCell | refine Nat.le_trans ?_ (Below.size (by assumption)))) hm.lt); (try unfold addIf); rw [hcl]; rintro e w2 ⟨rfl, hm1, hg1⟩))
            refine bodyPost_ret (v := .tuple #[.slice none 0 0, .int .i64 5]) (by simp [results, Try.results14, go_sem]) rfl ?_
            exact AddPost.bad hF.out (below_grown (by repeat' (first | with_reducible exact Below.refl _ _ | with_reducible assumption | with_reducible apply Below.drew | with_reducible apply below_drewN | with_reducible apply Below.alloc | with_reducible apply Below.setCell | (with_reducible refine Below.trans ?_ (Below.mono (by assumption) ?_)) | (simp; done) | (simp; omega) | omega | with_reducible apply le_size_alloc | with_reducible apply le_size_drewN | with_reducible apply le_size_drew | with_reducible apply le_size_setCell | refine Nat.le_trans ?_ (Below.size (by assumption)))) hg1 hB)
          · have h16' : (l.length : Int) < 16 := by omega
            have hF : Hid (addS l s f = (l ++ [(s, f, 0)], 0)) := by show _ = _; unfold addS; rw [if_neg (by simp [hz]), if_pos ⟨hs, hf⟩, if_neg (by simp [hh]), if_neg h16]
            have hfull := run_full A c l.length l.length (by omega) (by omega)
            rw [show ((l.length : Int).toNat) = l.length by omega] at hfull
            clear hs hf hz hh
            go_enter Try.func14, Try.ntmps14
            go_wp2_with (first | (go_at_call 35; with_reducible refine (isSlot_b _ _ d1 _).mono ?_; rintro e w' ⟨rfl, rfl⟩) | (go_at_call 36; with_reducible refine (isFrame_b _ _ d2 _).mono ?_; rintro e w' ⟨rfl, rfl⟩) | (go_at_call 34; with_reducible refine (read_good _ _ _ _ HS.out la HZ.out).mono ?_; rintro e w1 ⟨B, rfl, hB, hm, hb1⟩))
            with_reducible refine (add_c _ (mapOf l) _ _ _ _ _ ?_).mono ?_
            · exact hm.below_ (C := w1.heap.size) (by repeat' (first | with_reducible exact Below.refl _ _ | with_reducible assumption | with_reducible apply Below.drew | with_reducible apply below_drewN | with_reducible apply Below.alloc | with_reducible apply Below.setCell | (with_reducible refine Below.trans ?_ (Below.mono (by assumption) ?_)) | (simp; done) | (simp; omega) | omega | with_reducible apply le_size_alloc | with_reducible apply le_size_drewN | with_reducible apply le_size_drew | with_reducible apply le_size_setCell | refine Nat.le_trans ?_ (Below.size (by assumption)))) hm.lt
            (try unfold addIf)
            rw [hcl]
            rintro e w2 ⟨rfl, hm1, hg1⟩
            have hml := hm.lt
            have kb : Blk w2 w1.heap.size 28 #[.int .i64 s, .int .i64 f, .int .i64 0] := (hg1.block _ (by simp) (by simp; omega)).trans (Blk.new_ rfl rfl)
            have k0 := kb.cell_ 0
            have k1 := kb.cell_ 1
            have k2 := kb.cell_ 2
            simp at k0 k1 k2
            have hbw : Below w.heap.size w w2 := below_grown (by repeat' (first | with_reducible exact Below.refl _ _ | with_reducible assumption | with_reducible apply Below.drew | with_reducible apply below_drewN | with_reducible apply Below.alloc | with_reducible apply Below.setCell | (with_reducible refine Below.trans ?_ (Below.mono (by assumption) ?_)) | (simp; done) | (simp; omega) | omega | with_reducible apply le_size_alloc | with_reducible apply le_size_drewN | with_reducible apply le_size_drew | with_reducible apply le_size_setCell | refine Nat.le_trans ?_ (Below.size (by assumption)))) hg1 hB
            go_wp2_with fail
            go_region_held3 (fun W => W.cell? ⟨w1.heap.size, 0, none⟩ = some (.int .i64 s) ∧ W.cell? ⟨w1.heap.size, 1, none⟩ = some (.int .i64 f) ∧ W.cell? ⟨w1.heap.size, 2, none⟩ = some (.int .i64 0))
              (refine ⟨?_, ?_, ?_⟩ <;> (refine cell_keep (B := w2.heap.size) (a := w2) (by repeat' (first | with_reducible exact Below.refl _ _ | with_reducible assumption | with_reducible apply Below.drew | with_reducible apply below_drewN | with_reducible apply Below.alloc | with_reducible apply Below.setCell | (with_reducible refine Below.trans ?_ (Below.mono (by assumption) ?_)) | (simp; done) | (simp; omega) | omega | with_reducible apply le_size_alloc | with_reducible apply le_size_drewN | with_reducible apply le_size_drew | with_reducible apply le_size_setCell | refine Nat.le_trans ?_ (Below.size (by assumption)))) (by assumption) (by have := kb.lt; simpa using this)))
              (first | (refine step_appW rfl (.tmp 46) (.tmp 48) rfl _ w2.heap.size ?_ A l.length l.length l rfl (.inl ⟨rfl, HS.out.ext ?_⟩) _ 1 1 [(s, f, 0)] rfl (SW.one (t := 28) ?_) (by simp; omega) rfl rfl ?_; (simp [World.drew]); (exact (by repeat' (first | with_reducible exact Below.refl _ _ | with_reducible assumption | with_reducible apply Below.drew | with_reducible apply below_drewN | with_reducible apply Below.alloc | with_reducible apply Below.setCell | (with_reducible refine Below.trans ?_ (Below.mono (by assumption) ?_)) | (simp; done) | (simp; omega) | omega | with_reducible apply le_size_alloc | with_reducible apply le_size_drewN | with_reducible apply le_size_drew | with_reducible apply le_size_setCell | refine Nat.le_trans ?_ (Below.size (by assumption))))); (exact (by repeat' (first | with_reducible assumption | (with_reducible refine Blk.new_ ?_ ?_ <;> first | (simp; done) | rfl) | with_reducible apply Blk.drew_ | with_reducible apply Blk.drewN_ | with_reducible apply Blk.alloc_ | with_reducible refine Blk.far_ ?_ ?_ _ | (with_reducible refine Blk.below_ ?_ (by assumption) ?_) | (simp; done) | (simp; omega) | omega | with_reducible apply le_size_alloc | with_reducible apply lt_size_alloc | with_reducible apply le_size_drewN | with_reducible apply le_size_drew | with_reducible apply le_size_setCell | refine Nat.lt_of_lt_of_le ?_ (Below.size (by assumption)) | refine Nat.le_trans ?_ (Below.size (by assumption))))); intro A' c' w3 hc3 hb3 hm3))
            all_goals
              go_wp2_with fail
              refine bodyPost_ret (v := .tuple #[.slice A' (l.length + 1) c', .int .i64 0]) (by simp [results, Try.results14, go_sem]) rfl ?_
              unfold AddPost
              rw [hF.out]
              exact ⟨A', c', by simp, hc3.cw, hbw.trans (Below.mono (Below.trans ((Below.refl _ _).alloc (Nat.le_refl _) _).drew hb3) hbw.size)⟩
      | false =>
        have hf : ¬(0 ≤ f ∧ f < 256) := by simpa using d2
        have hF : Hid (addS l s f = ([], 2)) := by show _ = _; unfold addS; rw [if_neg (by simp [hz]), if_neg (fun h => hf h.2)]
        clear hs hf hz
        go_enter Try.func14, Try.ntmps14
        go_wp2_with (first | (go_at_call 35; with_reducible refine (isSlot_b _ _ d1 _).mono ?_; rintro e w' ⟨rfl, rfl⟩) | (go_at_call 36; with_reducible refine (isFrame_b _ _ d2 _).mono ?_; rintro e w' ⟨rfl, rfl⟩) | (go_at_call 34; with_reducible refine (read_good _ _ _ _ HS.out la HZ.out).mono ?_; rintro e w1 ⟨B, rfl, hB, hm, hb1⟩))
        refine bodyPost_ret (v := .tuple #[.slice none 0 0, .int .i64 2]) (by simp [results, Try.results14, go_sem]) rfl ?_
        exact AddPost.bad hF.out (by repeat' (first | with_reducible exact Below.refl _ _ | with_reducible assumption | with_reducible apply Below.drew | with_reducible apply below_drewN | with_reducible apply Below.alloc | with_reducible apply Below.setCell | (with_reducible refine Below.trans ?_ (Below.mono (by assumption) ?_)) | (simp; done) | (simp; omega) | omega | with_reducible apply le_size_alloc | with_reducible apply le_size_drewN | with_reducible apply le_size_drew | with_reducible apply le_size_setCell | refine Nat.le_trans ?_ (Below.size (by assumption))))
    | false =>
      have hs : ¬(0 ≤ s ∧ s < 256) := by simpa using d1
      have hF : Hid (addS l s f = ([], 2)) := by show _ = _; unfold addS; rw [if_neg (by simp [hz]), if_neg (fun h => hs h.1)]
      clear hs hz
      go_enter Try.func14, Try.ntmps14
      go_wp2_with (first | (go_at_call 35; with_reducible refine (isSlot_b _ _ d1 _).mono ?_; rintro e w' ⟨rfl, rfl⟩) | (go_at_call 34; with_reducible refine (read_good _ _ _ _ HS.out la HZ.out).mono ?_; rintro e w1 ⟨B, rfl, hB, hm, hb1⟩))
      refine bodyPost_ret (v := .tuple #[.slice none 0 0, .int .i64 2]) (by simp [results, Try.results14, go_sem]) rfl ?_
      exact AddPost.bad hF.out (by repeat' (first | with_reducible exact Below.refl _ _ | with_reducible assumption | with_reducible apply Below.drew | with_reducible apply below_drewN | with_reducible apply Below.alloc | with_reducible apply Below.setCell | (with_reducible refine Below.trans ?_ (Below.mono (by assumption) ?_)) | (simp; done) | (simp; omega) | omega | with_reducible apply le_size_alloc | with_reducible apply le_size_drewN | with_reducible apply le_size_drew | with_reducible apply le_size_setCell | refine Nat.le_trans ?_ (Below.size (by assumption))))
  · obtain ⟨⟨z, k⟩, hk⟩ : ∃ r, chkS l = r := ⟨_, rfl⟩
    rw [hk] at hz
    have hF : Hid (addS l s f = ([], z)) := by show _ = _; unfold addS; rw [hk, if_pos hz]
    have hzb : (z != 0) = true := by simpa using hz
    have HK := Lib.hid hk
    have HN := Lib.hid hz
    clear hk
    go_enter Try.func14, Try.ntmps14
    go_wp2_with (first | (go_at_call 34; with_reducible refine (read_bad _ _ _ _ HS.out la HK.out HN.out).mono ?_; rintro e w1 ⟨rfl, hb1⟩))
    refine bodyPost_ret (v := .tuple #[.slice none 0 0, .int .i64 z]) (by simp [results, Try.results14, go_sem]) rfl ?_
    exact AddPost.bad hF.out (by repeat' (first | with_reducible exact Below.refl _ _ | with_reducible assumption | with_reducible apply Below.drew | with_reducible apply below_drewN | with_reducible apply Below.alloc | with_reducible apply Below.setCell | (with_reducible refine Below.trans ?_ (Below.mono (by assumption) ?_)) | (simp; done) | (simp; omega) | omega | with_reducible apply le_size_alloc | with_reducible apply le_size_drewN | with_reducible apply le_size_drew | with_reducible apply le_size_setCell | refine Nat.le_trans ?_ (Below.size (by assumption))))

/-- What Remove hands back. -/
def RemPost (R : List Wr × Wr × Int) (w : World) (e : Ending) (w' : World) : Prop :=
  ∃ A c, e = .returned (.tuple #[.slice A R.1.length c, .agg #[.int .i64 R.2.1.1, .int .i64 R.2.1.2.1, .int .i64 R.2.1.2.2], .int .i64 R.2.2]) ∧ CW w' A c R.1 ∧ Below w.heap.size w w'
/-- The same, and the list lies in memory of the call's own. -/
def RemPost2 (R : List Wr × Wr × Int) (w : World) (e : Ending) (w' : World) : Prop :=
  ∃ A c, e = .returned (.tuple #[.slice A R.1.length c, .agg #[.int .i64 R.2.1.1, .int .i64 R.2.1.2.1, .int .i64 R.2.1.2.2], .int .i64 R.2.2]) ∧ CW w' A c R.1 ∧ Below w.heap.size w w' ∧ Mine w' w.heap.size A c R.1
theorem Mine.base {w : World} {base base' : Nat} {A : Option Addr} {c : Nat} {l : List Wr} (h : Mine w base A c l) (hb : base' ≤ base) : Mine w base' A c l := by
  rcases h with h | ⟨hl, h⟩
  · exact .inl h
  · refine .inr ⟨hl, ?_⟩
    rcases h with h | ⟨g, cap, cur, e, h1, h2⟩
    · exact .inl h
    · exact .inr ⟨g, cap, cur, e, Nat.le_trans hb h1, h2⟩
theorem findS_lt {l : List Wr} {s : Int} {i : Nat} (h : findS l s = (i, 0)) : i < l.length := by
  unfold findS at h
  by_cases h0 : (chkS l).1 ≠ 0
  · rw [if_pos h0] at h
    injection h with _ h
    exact absurd h h0
  · rw [if_neg h0] at h
    by_cases hs : 0 ≤ s ∧ s < 256
    · rw [if_pos hs] at h
      cases hf : l.findIdx? (fun x => decide (x.1 = s)) with
      | none => rw [hf] at h; simp at h
      | some k =>
        rw [hf] at h
        simp at h
        subst h
        exact (List.findIdx?_eq_some_iff_getElem.1 hf).1
    · rw [if_neg hs] at h
      simp at h
theorem find_bad (A : Option Addr) (c : Nat) (l : List Wr) (s : Int) (w : World) (ha : SW w A l) (la : l.length ≤ 1000) {z : Int} (hz : (findS l s).2 = z) (hn : z ≠ 0) :
    Calls Try.prog 33 #[.slice A l.length c, .int .i64 s] w fun e w' => e = .returned (.tuple #[.map none, .int .i64 0, .int .i64 z]) ∧ Below w.heap.size w w' :=
  (find_any A c l s w ha la).mono fun e w' ⟨hb, h⟩ => by
    rcases h with ⟨h0, he⟩ | ⟨h0, _⟩
    · rw [hz] at he; exact ⟨he, hb⟩
    · rw [hz] at h0; exact absurd h0 hn
theorem find_good (A : Option Addr) (c : Nat) (l : List Wr) (s : Int) (w : World) (ha : SW w A l) (la : l.length ≤ 1000) {i : Nat} (hz : findS l s = (i, 0)) :
    Calls Try.prog 33 #[.slice A l.length c, .int .i64 s] w fun e w' => ∃ B, e = .returned (.tuple #[.map (some B), .int .i64 i, .int .i64 0]) ∧ w.heap.size ≤ B ∧ MapK w' B (mapOf l) ∧ Below w.heap.size w w' :=
  (find_any A c l s w ha la).mono fun e w' ⟨hb, h⟩ => by
    rcases h with ⟨h0, he⟩ | ⟨h0, B, hB, he, hm⟩
    · rw [hz] at h0; exact absurd rfl h0
    · rw [hz] at he; exact ⟨B, he, hB, hm, hb⟩

theorem cells3 {w : World} {B : Nat} {u0 u1 u2 : Value} (q0 : w.cell? ⟨B, 0, none⟩ = some u0) (q1 : w.cell? ⟨B, 1, none⟩ = some u1) (q2 : w.cell? ⟨B, 2, none⟩ = some u2) (s1 s2 s3 : Value) :
    (((w.setCell ⟨B, 0, none⟩ s1).setCell ⟨B, 1, none⟩ s2).setCell ⟨B, 2, none⟩ s3).cell? ⟨B, 0, none⟩ = some s1 ∧ (((w.setCell ⟨B, 0, none⟩ s1).setCell ⟨B, 1, none⟩ s2).setCell ⟨B, 2, none⟩ s3).cell? ⟨B, 1, none⟩ = some s2 ∧
    (((w.setCell ⟨B, 0, none⟩ s1).setCell ⟨B, 1, none⟩ s2).setCell ⟨B, 2, none⟩ s3).cell? ⟨B, 2, none⟩ = some s3 := by
  simp [go_sem, q0, q1, q2]
theorem Mine.sw {w : World} {base : Nat} {A : Option Addr} {c : Nat} {l : List Wr} (h : Mine w base A c l) : SW w A l := by
  rcases h with rfl | h
  · exact SW.nil
  · exact h.sw.2
theorem Mine.ext {w w' : World} {base : Nat} {A : Option Addr} {c : Nat} {l : List Wr} (h : Mine w base A c l) (hb : Below w.heap.size w w') : Mine w' base A c l := by
  rcases h with h | ⟨hl, h⟩
  · exact .inl h
  · refine .inr ⟨hl, ?_⟩
    rcases h with h | ⟨g, cap, cur, e, h1, h2, h3⟩
    · exact .inl h
    · exact .inr ⟨g, cap, cur, e, h1, (hb.block g (Array.getElem?_eq_some_iff.1 h2).1).trans h2, h3⟩
theorem held4 {B : Nat} {w1 W : World} {b o : Nat} {u0 u1 u2 : Value} (h : Below B w1 W) (h0 : w1.cell? ⟨b, o, none⟩ = some u0) (h1 : w1.cell? ⟨b, o + 1, none⟩ = some u1) (h2 : w1.cell? ⟨b, o + 2, none⟩ = some u2) (hb : b < B) :
    Below B w1 W ∧ W.cell? ⟨b, o, none⟩ = some u0 ∧ W.cell? ⟨b, o + 1, none⟩ = some u1 ∧ W.cell? ⟨b, o + 2, none⟩ = some u2 :=
  ⟨h, cell_keep h h0 hb, cell_keep h h1 hb, cell_keep h h2 hb⟩

set_option maxRecDepth 100000 in
set_option maxHeartbeats 4000000 in
theorem Remove_own (A : Option Addr) (c : Nat) (l : List Wr) (s : Int) (w : World) (ha : CW w A c l) (la : l.length ≤ 1000) :
    Calls Try.prog 12 #[.slice A l.length c, .int .i64 s] w (RemPost2 (remS l s) w) := by
  have HA := Lib.hid ha
  have HS := Lib.hid ha.1
  have hlc := ha.2
  clear ha
  obtain ⟨⟨i, z⟩, hf⟩ : ∃ r, findS l s = r := ⟨_, rfl⟩
  by_cases hz : z = 0
  · subst hz
    have hi := findS_lt hf
    obtain ⟨b, off, x, rfl, hb, hx, hc0, hc1, hc2⟩ := HS.out.at_ hi
    have hF : Hid (remS l s = (l.take i ++ l.drop (i + 1), x, 0)) := by
      show _ = _
      unfold remS
      rw [hf, if_pos rfl, List.getD_eq_getElem?_getD, hx]
      rfl
    have h0 := run_full (some ⟨b, off, none⟩) c l.length 0 (by omega) (by omega)
    have h1 := run_pre (some ⟨b, off, none⟩) c l.length i (by omega) (by omega)
    have h2 := run_suf (some ⟨b, off, none⟩) c l.length ((i : Int) + 1) (by omega) (by omega)
    have e1 : ((i : Int)).toNat = i := by omega
    have e2 : ((i : Int) + 1).toNat = i + 1 := by omega
    rw [e1] at h1
    rw [e2] at h2
    have i1 : (i : Int) < l.length := by omega
    have i2 : (i : Int) ≤ 1000 := by omega
    have hwr : IntKind.i64.wrap ((i : Int) + 1) = (i : Int) + 1 := IntWalk.i64_in _ (by omega)
    have H1 := Lib.hid (HS.out.take i)
    have H2 := Lib.hid (HA.out.suf (i + 1) (by omega))
    obtain ⟨A2, hA2⟩ : ∃ A2, (if c = i + 1 then some ⟨b, off, none⟩ else (some (⟨b, off, none⟩ : Addr)).map (fun a => a.add ((i + 1) * 3))) = A2 := ⟨_, rfl⟩
    rw [hA2] at h2 H2
    have HF := Lib.hid hf; have HX := Lib.hid hx
    have hlen : (l.take i).length = i := by simp; omega
    clear hf hx hA2
    go_enter Try.func12, Try.ntmps12
    go_wp2_with fail
    refine (find_good _ _ _ _ _ (HS.out.ext (by repeat' (first | with_reducible exact Below.refl _ _ | with_reducible assumption | with_reducible apply Below.drew | with_reducible apply below_drewN | with_reducible apply Below.alloc | with_reducible apply Below.setCell | (with_reducible refine Below.trans ?_ (Below.mono (by assumption) ?_)) | (simp; done) | (simp; omega) | omega | with_reducible apply le_size_alloc | with_reducible apply le_size_drewN | with_reducible apply le_size_drew | with_reducible apply le_size_setCell | refine Nat.le_trans ?_ (Below.size (by assumption))))) la HF.out).mono ?_
    rintro e w1 ⟨B, rfl, hB, hm, hb1⟩
    have kb : Blk w1 w.heap.size 28 #[.int .i64 0, .int .i64 0, .int .i64 0] := Blk.below_ (Blk.new_ rfl rfl) hb1 (by simp)
    have k0 := kb.cell_ 0
    have k1 := kb.cell_ 1
    have k2 := kb.cell_ 2
    have f0 := kb.frozen_ 0
    have f1 := kb.frozen_ 1
    have f2 := kb.frozen_ 2
    have kl := kb.lt
    simp at k0 k1 k2
    have hbw : Below w.heap.size w w1 := (by repeat' (first | with_reducible exact Below.refl _ _ | with_reducible assumption | with_reducible apply Below.drew | with_reducible apply below_drewN | with_reducible apply Below.alloc | with_reducible apply Below.setCell | (with_reducible refine Below.trans ?_ (Below.mono (by assumption) ?_)) | (simp; done) | (simp; omega) | omega | with_reducible apply le_size_alloc | with_reducible apply le_size_drewN | with_reducible apply le_size_drew | with_reducible apply le_size_setCell | refine Nat.le_trans ?_ (Below.size (by assumption))))
    have hd0 : w1.cell? ⟨b, off + i * 3, none⟩ = some (.int .i64 x.1) := cell_keep hbw hc0 hb
    have hd1 : w1.cell? ⟨b, off + i * 3 + 1, none⟩ = some (.int .i64 x.2.1) := cell_keep hbw hc1 hb
    have hd2 : w1.cell? ⟨b, off + i * 3 + 2, none⟩ = some (.int .i64 x.2.2) := cell_keep hbw hc2 hb
    go_wp2_with fail
    go_region_held3 (fun _ => True) (trivial)
      (first | (refine step_appW rfl (.tmp 23) (.tmp 26) rfl _ w1.heap.size ?_ (some ⟨b, off, none⟩) 0 0 [] rfl (.inl ⟨rfl, SW.nil⟩) (some ⟨b, off, none⟩) c i (l.take i) hlen.symm (H1.out.ext ?_) (by simp; omega) rfl rfl ?_; (exact Nat.le_refl _); (exact hbw.trans (Below.mono (by repeat' (first | with_reducible exact Below.refl _ _ | with_reducible assumption | with_reducible apply Below.drew | with_reducible apply below_drewN | with_reducible apply Below.alloc | with_reducible apply Below.setCell | (with_reducible refine Below.trans ?_ (Below.mono (by assumption) ?_)) | (simp; done) | (simp; omega) | omega | with_reducible apply le_size_alloc | with_reducible apply le_size_drewN | with_reducible apply le_size_drew | with_reducible apply le_size_setCell | refine Nat.le_trans ?_ (Below.size (by assumption)))) hbw.size)); intro A' c' w3 hc3 hb3 hm3))
    all_goals
      rw [List.nil_append] at hc3 hm3
      have hM3 := hm3 (.inl rfl)
      clear hm3
      have hb3' : Below w1.heap.size w1 w3 := (by repeat' (first | with_reducible exact Below.refl _ _ | with_reducible assumption | with_reducible apply Below.drew | with_reducible apply below_drewN | with_reducible apply Below.alloc | with_reducible apply Below.setCell | (with_reducible refine Below.trans ?_ (Below.mono (by assumption) ?_)) | (simp; done) | (simp; omega) | omega | with_reducible apply le_size_alloc | with_reducible apply le_size_drewN | with_reducible apply le_size_drew | with_reducible apply le_size_setCell | refine Nat.le_trans ?_ (Below.size (by assumption))))
      go_wp2_with fail
      go_region_held3 (fun W => Below w.heap.size w W ∧ W.cell? ⟨b, off + i * 3, none⟩ = some (.int .i64 x.1) ∧ W.cell? ⟨b, off + i * 3 + 1, none⟩ = some (.int .i64 x.2.1) ∧ W.cell? ⟨b, off + i * 3 + 2, none⟩ = some (.int .i64 x.2.2))
        (exact held4 ((by repeat' (first | with_reducible exact Below.refl _ _ | with_reducible assumption | with_reducible apply Below.drew | with_reducible apply below_drewN | with_reducible apply Below.alloc | with_reducible apply Below.setCell | (with_reducible refine Below.trans ?_ (Below.mono (by assumption) ?_)) | (simp; done) | (simp; omega) | omega | with_reducible apply le_size_alloc | with_reducible apply le_size_drewN | with_reducible apply le_size_drew | with_reducible apply le_size_setCell | refine Nat.le_trans ?_ (Below.size (by assumption))))) hc0 hc1 hc2 hb)
        (first | (refine step_appW rfl (.tmp 28) (.tmp 32) rfl _ w1.heap.size ?_ A' c' i (l.take i) hlen.symm (hc3.ext ?_) A2 (c - (i + 1)) (l.length - (i + 1)) (l.drop (i + 1)) (by simp) (H2.out.1.ext ?_) (by simp; omega) rfl rfl ?_; (exact hb3'.size); (exact (by repeat' (first | with_reducible exact Below.refl _ _ | with_reducible assumption | with_reducible apply Below.drew | with_reducible apply below_drewN | with_reducible apply Below.alloc | with_reducible apply Below.setCell | (with_reducible refine Below.trans ?_ (Below.mono (by assumption) ?_)) | (simp; done) | (simp; omega) | omega | with_reducible apply le_size_alloc | with_reducible apply le_size_drewN | with_reducible apply le_size_drew | with_reducible apply le_size_setCell | refine Nat.le_trans ?_ (Below.size (by assumption))))); (exact hbw.trans (Below.mono (by repeat' (first | with_reducible exact Below.refl _ _ | with_reducible assumption | with_reducible apply Below.drew | with_reducible apply below_drewN | with_reducible apply Below.alloc | with_reducible apply Below.setCell | (with_reducible refine Below.trans ?_ (Below.mono (by assumption) ?_)) | (simp; done) | (simp; omega) | omega | with_reducible apply le_size_alloc | with_reducible apply le_size_drewN | with_reducible apply le_size_drew | with_reducible apply le_size_setCell | refine Nat.le_trans ?_ (Below.size (by assumption)))) hbw.size)); intro A4 c4 w4 hc4 hb4 hm4; have hb4' : Below w1.heap.size w1 w4 := (by repeat' (first | with_reducible exact Below.refl _ _ | with_reducible assumption | with_reducible apply Below.drew | with_reducible apply below_drewN | with_reducible apply Below.alloc | with_reducible apply Below.setCell | (with_reducible refine Below.trans ?_ (Below.mono (by assumption) ?_)) | (simp; done) | (simp; omega) | omega | with_reducible apply le_size_alloc | with_reducible apply le_size_drewN | with_reducible apply le_size_drew | with_reducible apply le_size_setCell | refine Nat.le_trans ?_ (Below.size (by assumption)))); have g0 : w4.cell? ⟨w.heap.size, 0, none⟩ = some (.int .i64 0) := cell_keep hb4' k0 kl; have g1 : w4.cell? ⟨w.heap.size, 1, none⟩ = some (.int .i64 0) := cell_keep hb4' k1 kl; have g2 : w4.cell? ⟨w.heap.size, 2, none⟩ = some (.int .i64 0) := cell_keep hb4' k2 kl; have g3 : w4.frozen? ⟨w.heap.size, 0, none⟩ = false := frozen_keep hb4' f0 kl; have g4 : w4.frozen? ⟨w.heap.size, 1, none⟩ = false := frozen_keep hb4' f1 kl; have g5 : w4.frozen? ⟨w.heap.size, 2, none⟩ = false := frozen_keep hb4' f2 kl))
      all_goals
        obtain ⟨r0, r1, r2⟩ := cells3 g0 g1 g2 (.int .i64 x.1) (.int .i64 x.2.1) (.int .i64 x.2.2)
        have hM4 := hm4 (hM3.ext (by repeat' (first | with_reducible exact Below.refl _ _ | with_reducible assumption | with_reducible apply Below.drew | with_reducible apply below_drewN | with_reducible apply Below.alloc | with_reducible apply Below.setCell | (with_reducible refine Below.trans ?_ (Below.mono (by assumption) ?_)) | (simp; done) | (simp; omega) | omega | with_reducible apply le_size_alloc | with_reducible apply le_size_drewN | with_reducible apply le_size_drew | with_reducible apply le_size_setCell | refine Nat.le_trans ?_ (Below.size (by assumption)))))
        have hcap := hc4.cw.2
        have hmine := ((((hM4.far 0 (.int .i64 x.1) kl).far 1 (.int .i64 x.2.1) kl).far 2 (.int .i64 x.2.2) kl)).base hbw.size
        have hsw := hmine.sw
        have hlast : Below w.heap.size w (((w4.setCell ⟨w.heap.size, 0, none⟩ (.int .i64 x.1)).setCell ⟨w.heap.size, 1, none⟩ (.int .i64 x.2.1)).setCell ⟨w.heap.size, 2, none⟩ (.int .i64 x.2.2)) := (by repeat' (first | with_reducible exact Below.refl _ _ | with_reducible assumption | with_reducible apply Below.drew | with_reducible apply below_drewN | with_reducible apply Below.alloc | with_reducible apply Below.setCell | (with_reducible refine Below.trans ?_ (Below.mono (by assumption) ?_)) | (simp; done) | (simp; omega) | omega | with_reducible apply le_size_alloc | with_reducible apply le_size_drewN | with_reducible apply le_size_drew | with_reducible apply le_size_setCell | refine Nat.le_trans ?_ (Below.size (by assumption))))
        have HH := Lib.hid (And.intro hsw (And.intro hcap hlast))
        have HM := Lib.hid hmine
        clear hsw hcap hlast hM4 hm4 hmine
        go_wp2_with fail
        refine bodyPost_ret (v := .tuple #[.slice A4 (i + (l.length - (i + 1))) c4, .agg #[.int .i64 x.1, .int .i64 x.2.1, .int .i64 x.2.2], .int .i64 0]) (by simp [results, Try.results12, go_sem, r0, r1, r2]) rfl ?_
        unfold RemPost2
        rw [hF.out]
        exact ⟨A4, c4, by simp [hlen], ⟨HH.out.1, HH.out.2.1⟩, HH.out.2.2, HM.out⟩
  · have hF : Hid (remS l s = ([], (0, 0, 0), z)) := by show _ = _; unfold remS; rw [hf, if_neg hz]
    have hzb : (z != 0) = true := by simpa using hz
    have HK : Hid ((findS l s).2 = z) := by show _ = _; rw [hf]
    have HN := Lib.hid hz
    clear hf
    go_enter Try.func12, Try.ntmps12
    go_wp2_with fail
    refine (find_bad _ _ _ _ _ (HS.out.ext (by repeat' (first | with_reducible exact Below.refl _ _ | with_reducible assumption | with_reducible apply Below.drew | with_reducible apply below_drewN | with_reducible apply Below.alloc | with_reducible apply Below.setCell | (with_reducible refine Below.trans ?_ (Below.mono (by assumption) ?_)) | (simp; done) | (simp; omega) | omega | with_reducible apply le_size_alloc | with_reducible apply le_size_drewN | with_reducible apply le_size_drew | with_reducible apply le_size_setCell | refine Nat.le_trans ?_ (Below.size (by assumption))))) la HK.out HN.out).mono ?_
    rintro e w1 ⟨rfl, hb1⟩
    have kb : Blk w1 w.heap.size 28 #[.int .i64 0, .int .i64 0, .int .i64 0] := Blk.below_ (Blk.new_ rfl rfl) hb1 (by simp)
    have k0 := kb.cell_ 0
    have k1 := kb.cell_ 1
    have k2 := kb.cell_ 2
    have f0 := kb.frozen_ 0
    have f1 := kb.frozen_ 1
    have f2 := kb.frozen_ 2
    have kl := kb.lt
    simp at k0 k1 k2
    have hbw : Below w.heap.size w w1 := (by repeat' (first | with_reducible exact Below.refl _ _ | with_reducible assumption | with_reducible apply Below.drew | with_reducible apply below_drewN | with_reducible apply Below.alloc | with_reducible apply Below.setCell | (with_reducible refine Below.trans ?_ (Below.mono (by assumption) ?_)) | (simp; done) | (simp; omega) | omega | with_reducible apply le_size_alloc | with_reducible apply le_size_drewN | with_reducible apply le_size_drew | with_reducible apply le_size_setCell | refine Nat.le_trans ?_ (Below.size (by assumption))))
    go_wp2_with fail
    refine bodyPost_ret (v := .tuple #[.slice none 0 0, .agg #[.int .i64 0, .int .i64 0, .int .i64 0], .int .i64 z]) (by simp [results, Try.results12, go_sem, k0, k1, k2]) rfl ?_
    unfold RemPost2
    rw [hF.out]
    exact ⟨none, 0, rfl, CW.nil, (by repeat' (first | with_reducible exact Below.refl _ _ | with_reducible assumption | with_reducible apply Below.drew | with_reducible apply below_drewN | with_reducible apply Below.alloc | with_reducible apply Below.setCell | (with_reducible refine Below.trans ?_ (Below.mono (by assumption) ?_)) | (simp; done) | (simp; omega) | omega | with_reducible apply le_size_alloc | with_reducible apply le_size_drewN | with_reducible apply le_size_drew | with_reducible apply le_size_setCell | refine Nat.le_trans ?_ (Below.size (by assumption)))), .inl rfl⟩
theorem Remove_any (A : Option Addr) (c : Nat) (l : List Wr) (s : Int) (w : World) (ha : CW w A c l) (la : l.length ≤ 1000) :
    Calls Try.prog 12 #[.slice A l.length c, .int .i64 s] w (RemPost (remS l s) w) :=
  (Remove_own A c l s w ha la).mono fun _ _ ⟨A', c', h1, h2, h3, _⟩ => ⟨A', c', h1, h2, h3⟩
end Go.Proofs.Ytnglompninkmbaa
