/- Contracts of slices.Clone on writes, and of held.Claim, claimed, Of, Unclaim. -/
import Derived.Test.YtnglompninkmbaaHeldC
namespace Go.Proofs.Ytnglompninkmbaa
open Go.RowKit Go.Maps

theorem flat_set (p : Int) : ∀ (l : List Wr) (i : Nat) (x : Wr), l[i]? = some x → flat (l.set i (x.1, x.2.1, p)) = (flat l).set (i * 3 + 2) p
  | [], _, _, h => by simp at h
  | y :: l, 0, x, h => by
    simp only [List.getElem?_cons_zero, Option.some.injEq] at h
    subst h
    simp [flat]
  | y :: l, i + 1, x, h => by
    have e : ∀ l : List Wr, flat (y :: l) = y.1 :: y.2.1 :: y.2.2 :: flat l := fun _ => rfl
    rw [List.set_cons_succ, e, e, flat_set p l i x (by simpa using h), show (i + 1) * 3 + 2 = i * 3 + 2 + 1 + 1 + 1 by omega]
    simp
theorem OwnW.put {w : World} {base c : Nat} {A : Option Addr} {l : List Wr} {i : Nat} {x : Wr} (h : OwnW w base (.slice A l.length c) l) (hx : l[i]? = some x) :
    ∃ g, A = some ⟨g, 0, none⟩ ∧ base ≤ g ∧ w.cell? ⟨g, i * 3 + 2, none⟩ = some (.int .i64 x.2.2) ∧ w.frozen? ⟨g, i * 3 + 2, none⟩ = false ∧ ∀ p, SW (w.setCell ⟨g, i * 3 + 2, none⟩ (.int .i64 p)) A (l.set i (x.1, x.2.1, p)) := by
  have hi := (List.getElem?_eq_some_iff.1 hx).1
  have hsw := h.sw.2
  obtain ⟨hl, ⟨e, hn⟩ | ⟨g, cap, cur, e, hg, hb, h3⟩⟩ := h
  · rw [hn] at hi; omega
  · injection e with e1 e2 e3
    subst e1
    have hB : Blk w g 28 cur := hb
    obtain ⟨b, off, e', hb', hc⟩ := hsw (by rw [flat_length]; omega)
    injection e' with e'
    injection e' with e1 e2
    subst e1 e2
    have hat := hc (i * 3 + 2) _ (flat_at hx).2.2
    rw [Nat.zero_add] at hat
    refine ⟨g, rfl, hg, hat, hB.frozen_ _, fun p hp => ⟨g, 0, rfl, by simpa [World.setCell] using hb', fun j y hy => ?_⟩⟩
    rw [flat_set p l i x hx, List.getElem?_set] at hy
    rw [Nat.zero_add]
    by_cases hj : i * 3 + 2 = j
    · subst hj
      rw [if_pos rfl] at hy
      have hlt : i * 3 + 2 < (flat l).length := by rw [flat_length]; omega
      rw [if_pos hlt] at hy
      injection hy with hy
      subst hy
      simp [go_sem, hat]
    · rw [if_neg hj] at hy
      rw [World.cell?_setCell_other _ _ _ _ (by intro e; injection e with e1 e2; omega)]
      have := hc j y hy
      rw [Nat.zero_add] at this
      exact this

def ClonePost (l : List Wr) (w : World) (e : Ending) (w' : World) : Prop := ∃ A c, e = .returned (.slice A l.length c) ∧ Mine w' w.heap.size A c l ∧ l.length ≤ c ∧ Below w.heap.size w w'
set_option maxHeartbeats 1000000 in
theorem CloneW_any (A : Option Addr) (c : Nat) (l : List Wr) (w : World) (ha : SW w A l) (la : l.length ≤ 1000) :
    Calls Try.prog 43 #[.slice A l.length c] w (ClonePost l w) := by
  have he := fun (W : World) a n c n' c' => Lib.run_eql_slice_nil (P := Try.prog) W 23 28 a n c n' c' Try.underlying23
  cases A with
  | none =>
    obtain rfl : l = [] := by
      cases l with
      | nil => rfl
      | cons a t => obtain ⟨b, off, e, _⟩ := ha (by rw [flat_length]; simp); cases e
    go_enter Try.func43, Try.ntmps43
    go_wp2
    go_ret
    exact ⟨none, 0, rfl, .inl rfl, by simp, Below.refl _ _⟩
  | some ad =>
    have HA := Lib.hid ha
    clear ha
    go_enter Try.func43, Try.ntmps43
    go_wp2_with (at_builtin; refine wpList_appW rfl (.tmp 5) (.tmp 6) rfl _ w.heap.size (by simp) (some ⟨w.heap.size, 0, none⟩) 0 0 [] rfl (.inl ⟨rfl, SW.nil⟩) (some ad) c l.length l rfl (HA.out.ext (by repeat' (first | with_reducible exact Below.refl _ _ | with_reducible assumption | with_reducible apply Below.drew | with_reducible apply below_drewN | with_reducible apply Below.alloc | with_reducible apply Below.setCell | (with_reducible refine Below.trans ?_ (Below.mono (by assumption) ?_)) | (simp; done) | (simp; omega) | omega | with_reducible apply le_size_alloc | with_reducible apply le_size_drewN | with_reducible apply le_size_drew | with_reducible apply le_size_setCell | refine Nat.le_trans ?_ (Below.size (by assumption))))) (by simp; omega) rfl rfl ?_; intro A' c' w1 hc1 hb1 hm1)
    go_ret
    exact ⟨A', c', rfl, hm1 (.inl rfl), hc1.cw.2, (by repeat' (first | with_reducible exact Below.refl _ _ | with_reducible assumption | with_reducible apply Below.drew | with_reducible apply below_drewN | with_reducible apply Below.alloc | with_reducible apply Below.setCell | (with_reducible refine Below.trans ?_ (Below.mono (by assumption) ?_)) | (simp; done) | (simp; omega) | omega | with_reducible apply le_size_alloc | with_reducible apply le_size_drewN | with_reducible apply le_size_drew | with_reducible apply le_size_setCell | refine Nat.le_trans ?_ (Below.size (by assumption))))⟩

/-- Claim: the list, the error. -/
def claS (l : List Wr) (s p : Int) : List Wr × Int :=
  if (findS l s).2 ≠ 0 ∧ (findS l s).2 ≠ 6 then ([], (findS l s).2) else if 1 ≤ p ∧ p ≤ 8 then (if (findS l s).2 ≠ 0 then ([], 6) else
    if (l.getD (findS l s).1 (0, 0, 0)).2.2 ≠ 0 then ([], 9) else if (l.findIdx? (fun x => decide (x.2.2 = p))).isSome then ([], 7) else
      (l.set (findS l s).1 ((l.getD (findS l s).1 (0, 0, 0)).1, (l.getD (findS l s).1 (0, 0, 0)).2.1, p), 0)) else ([], 2)

set_option maxRecDepth 100000 in
set_option maxHeartbeats 4000000 in
theorem Claim_any (A : Option Addr) (c : Nat) (l : List Wr) (s p : Int) (w : World) (ha : SW w A l) (la : l.length ≤ 1000) :
    Calls Try.prog 23 #[.slice A l.length c, .int .i64 s, .int .i64 p] w (AddPost (claS l s p) w) := by
  have HS := Lib.hid ha
  clear ha
  obtain ⟨⟨i, z⟩, hf⟩ : ∃ r, findS l s = r := ⟨_, rfl⟩
  by_cases hz : z = 0
  · subst hz
    have HF := Lib.hid hf
    cases d1 : decide (1 ≤ p ∧ p ≤ 8) with
    | true =>
      have hp : 1 ≤ p ∧ p ≤ 8 := by simpa using d1
      have hi := findS_lt hf
      obtain ⟨b, off, x, rfl, hb, hx, hc0, hc1, hc2⟩ := HS.out.at_ hi
      have hgd : l.getD i (0, 0, 0) = x := by rw [List.getD_eq_getElem?_getD, hx]; rfl
      have i1 : (i : Int) < l.length := by omega
      have hbs : ∀ W : World, Below w.heap.size w W → W.cell? ⟨b, off + i * 3 + 2, none⟩ = some (.int .i64 x.2.2) := fun W hW => cell_keep hW hc2 hb
      by_cases hx2 : x.2.2 = 0
      · rw [hx2] at hbs
        cases hq : l.findIdx? (fun x => decide (x.2.2 = p)) with
        | none =>
          have hF : Hid (claS l s p = (l.set i (x.1, x.2.1, p), 0)) := by
            show _ = _; unfold claS; rw [hf, if_neg (by simp), if_pos hp, if_neg (by simp), hgd, if_neg (by simp [hx2]), hq]; rfl
          have hL : Hid ((mapOf l).lookup (3, p) = none) := by show _ = _; rw [look_claim (by omega), hq]; rfl
          have HX := Lib.hid hx
          clear hf hp hq hgd hx hc0 hc1 hc2
          go_enter Try.func23, Try.ntmps23
          go_wp2_with (first | (go_at_call 42; with_reducible refine (isProc_b _ _ d1 _).mono ?_; rintro e w' ⟨rfl, rfl⟩) | (go_at_call 33; with_reducible refine (find_good _ _ _ _ _ HS.out la HF.out).mono ?_; rintro e w1 ⟨B, rfl, hB, hm, hb1⟩; have hlk := rlook hm 3 p hL.out; simp only [okOf] at hlk; have hc2 := hbs w1 hb1))
          refine (CloneW_any _ _ _ _ (HS.out.ext hb1) la).mono ?_
          rintro e w2 ⟨A2, c2, rfl, hM2, hcap, hb2⟩
          have hM3 : OwnW w2 w1.heap.size (.slice A2 l.length c2) l := Or.resolve_left hM2 (fun e => by rw [e] at hi; simp at hi)
          obtain ⟨g, rfl, hg, q0, q1, q2⟩ := hM3.put HX.out
          have Q2 := Lib.hid (q2 p)
          clear q2 hM2 hM3
          go_wp2_with fail
          refine bodyPost_ret (v := .tuple #[.slice (some ⟨g, 0, none⟩) l.length c2, .int .i64 0]) (by simp [results, Try.results23, go_sem]) rfl ?_
          unfold AddPost
          rw [hF.out]
          exact ⟨_, c2, by simp, ⟨Q2.out, by simpa using hcap⟩, (hb1.trans (hb2.mono hb1.size)).setCell (show w.heap.size ≤ g from Nat.le_trans hb1.size hg) _⟩
        | some k =>
          have hF : Hid (claS l s p = ([], 7)) := by
            show _ = _; unfold claS; rw [hf, if_neg (by simp), if_pos hp, if_neg (by simp), hgd, if_neg (by simp [hx2]), hq]; rfl
          have hL : Hid ((mapOf l).lookup (3, p) = some (k : Int)) := by show _ = _; rw [look_claim (by omega), hq]; rfl
          clear hf hp hq hgd hx hc0 hc1 hc2
          go_enter Try.func23, Try.ntmps23
          go_wp2_with (first | (go_at_call 42; with_reducible refine (isProc_b _ _ d1 _).mono ?_; rintro e w' ⟨rfl, rfl⟩) | (go_at_call 33; with_reducible refine (find_good _ _ _ _ _ HS.out la HF.out).mono ?_; rintro e w1 ⟨B, rfl, hB, hm, hb1⟩; have hlk := rlook hm 3 p hL.out; simp only [okOf] at hlk; have hc2 := hbs w1 hb1))
          refine bodyPost_ret (v := .tuple #[.slice none 0 0, .int .i64 7]) (by simp [results, Try.results23, go_sem]) rfl ?_
          exact AddPost.bad hF.out (by repeat' (first | with_reducible exact Below.refl _ _ | with_reducible assumption | with_reducible apply Below.drew | with_reducible apply below_drewN | with_reducible apply Below.alloc | with_reducible apply Below.setCell | (with_reducible refine Below.trans ?_ (Below.mono (by assumption) ?_)) | (simp; done) | (simp; omega) | omega | with_reducible apply le_size_alloc | with_reducible apply le_size_drewN | with_reducible apply le_size_drew | with_reducible apply le_size_setCell | refine Nat.le_trans ?_ (Below.size (by assumption))))
      · have hF : Hid (claS l s p = ([], 9)) := by
          show _ = _; unfold claS; rw [hf, if_neg (by simp), if_pos hp, if_neg (by simp), hgd, if_pos hx2]
        have hxb : (x.2.2 != 0) = true := by simpa using hx2
        clear hf hp hgd hx hc0 hc1 hc2
        go_enter Try.func23, Try.ntmps23
        go_wp2_with (first | (go_at_call 42; with_reducible refine (isProc_b _ _ d1 _).mono ?_; rintro e w' ⟨rfl, rfl⟩) | (go_at_call 33; with_reducible refine (find_good _ _ _ _ _ HS.out la HF.out).mono ?_; rintro e w1 ⟨B, rfl, hB, hm, hb1⟩; have hc2 := hbs w1 hb1))
        refine bodyPost_ret (v := .tuple #[.slice none 0 0, .int .i64 9]) (by simp [results, Try.results23, go_sem]) rfl ?_
        exact AddPost.bad hF.out (by repeat' (first | with_reducible exact Below.refl _ _ | with_reducible assumption | with_reducible apply Below.drew | with_reducible apply below_drewN | with_reducible apply Below.alloc | with_reducible apply Below.setCell | (with_reducible refine Below.trans ?_ (Below.mono (by assumption) ?_)) | (simp; done) | (simp; omega) | omega | with_reducible apply le_size_alloc | with_reducible apply le_size_drewN | with_reducible apply le_size_drew | with_reducible apply le_size_setCell | refine Nat.le_trans ?_ (Below.size (by assumption))))
    | false =>
      have hp : ¬(1 ≤ p ∧ p ≤ 8) := by simpa using d1
      have hF : Hid (claS l s p = ([], 2)) := by show _ = _; unfold claS; rw [hf, if_neg (by simp), if_neg hp]
      clear hf hp
      go_enter Try.func23, Try.ntmps23
      go_wp2_with (first | (go_at_call 42; with_reducible refine (isProc_b _ _ d1 _).mono ?_; rintro e w' ⟨rfl, rfl⟩) | (go_at_call 33; with_reducible refine (find_good _ _ _ _ _ HS.out la HF.out).mono ?_; rintro e w1 ⟨B, rfl, hB, hm, hb1⟩))
      refine bodyPost_ret (v := .tuple #[.slice none 0 0, .int .i64 2]) (by simp [results, Try.results23, go_sem]) rfl ?_
      exact AddPost.bad hF.out (by repeat' (first | with_reducible exact Below.refl _ _ | with_reducible assumption | with_reducible apply Below.drew | with_reducible apply below_drewN | with_reducible apply Below.alloc | with_reducible apply Below.setCell | (with_reducible refine Below.trans ?_ (Below.mono (by assumption) ?_)) | (simp; done) | (simp; omega) | omega | with_reducible apply le_size_alloc | with_reducible apply le_size_drewN | with_reducible apply le_size_drew | with_reducible apply le_size_setCell | refine Nat.le_trans ?_ (Below.size (by assumption))))
  · have HK : Hid ((findS l s).2 = z) := by show _ = _; rw [hf]
    have HN := Lib.hid hz
    have hzb : (z != 0) = true := by simpa using hz
    by_cases h6 : z = 6
    · subst h6
      cases d1 : decide (1 ≤ p ∧ p ≤ 8) with
      | true =>
        have hp : 1 ≤ p ∧ p ≤ 8 := by simpa using d1
        have hF : Hid (claS l s p = ([], 6)) := by show _ = _; unfold claS; rw [hf, if_neg (by simp), if_pos hp, if_pos (by simp)]
        clear hf hp hz hzb
        go_enter Try.func23, Try.ntmps23
        go_wp2_with (first | (go_at_call 42; with_reducible refine (isProc_b _ _ d1 _).mono ?_; rintro e w' ⟨rfl, rfl⟩) | (go_at_call 33; with_reducible refine (find_bad _ _ _ _ _ HS.out la HK.out HN.out).mono ?_; rintro e w1 ⟨rfl, hb1⟩))
        refine bodyPost_ret (v := .tuple #[.slice none 0 0, .int .i64 6]) (by simp [results, Try.results23, go_sem]) rfl ?_
        exact AddPost.bad hF.out (by repeat' (first | with_reducible exact Below.refl _ _ | with_reducible assumption | with_reducible apply Below.drew | with_reducible apply below_drewN | with_reducible apply Below.alloc | with_reducible apply Below.setCell | (with_reducible refine Below.trans ?_ (Below.mono (by assumption) ?_)) | (simp; done) | (simp; omega) | omega | with_reducible apply le_size_alloc | with_reducible apply le_size_drewN | with_reducible apply le_size_drew | with_reducible apply le_size_setCell | refine Nat.le_trans ?_ (Below.size (by assumption))))
      | false =>
        have hp : ¬(1 ≤ p ∧ p ≤ 8) := by simpa using d1
        have hF : Hid (claS l s p = ([], 2)) := by show _ = _; unfold claS; rw [hf, if_neg (by simp), if_neg hp]
        clear hf hp hz hzb
        go_enter Try.func23, Try.ntmps23
        go_wp2_with (first | (go_at_call 42; with_reducible refine (isProc_b _ _ d1 _).mono ?_; rintro e w' ⟨rfl, rfl⟩) | (go_at_call 33; with_reducible refine (find_bad _ _ _ _ _ HS.out la HK.out HN.out).mono ?_; rintro e w1 ⟨rfl, hb1⟩))
        refine bodyPost_ret (v := .tuple #[.slice none 0 0, .int .i64 2]) (by simp [results, Try.results23, go_sem]) rfl ?_
        exact AddPost.bad hF.out (by repeat' (first | with_reducible exact Below.refl _ _ | with_reducible assumption | with_reducible apply Below.drew | with_reducible apply below_drewN | with_reducible apply Below.alloc | with_reducible apply Below.setCell | (with_reducible refine Below.trans ?_ (Below.mono (by assumption) ?_)) | (simp; done) | (simp; omega) | omega | with_reducible apply le_size_alloc | with_reducible apply le_size_drewN | with_reducible apply le_size_drew | with_reducible apply le_size_setCell | refine Nat.le_trans ?_ (Below.size (by assumption))))
    · have hF : Hid (claS l s p = ([], z)) := by show _ = _; unfold claS; rw [hf, if_pos ⟨hz, h6⟩]
      have hzc : (z != 6) = true := by simpa using h6
      clear hf hz h6
      go_enter Try.func23, Try.ntmps23
      go_wp2_with (first | (go_at_call 33; with_reducible refine (find_bad _ _ _ _ _ HS.out la HK.out HN.out).mono ?_; rintro e w1 ⟨rfl, hb1⟩))
      refine bodyPost_ret (v := .tuple #[.slice none 0 0, .int .i64 z]) (by simp [results, Try.results23, go_sem]) rfl ?_
      exact AddPost.bad hF.out (by repeat' (first | with_reducible exact Below.refl _ _ | with_reducible assumption | with_reducible apply Below.drew | with_reducible apply below_drewN | with_reducible apply Below.alloc | with_reducible apply Below.setCell | (with_reducible refine Below.trans ?_ (Below.mono (by assumption) ?_)) | (simp; done) | (simp; omega) | omega | with_reducible apply le_size_alloc | with_reducible apply le_size_drewN | with_reducible apply le_size_drew | with_reducible apply le_size_setCell | refine Nat.le_trans ?_ (Below.size (by assumption))))

/-- claimed: the number (-1: none), the error. -/
def clmS (l : List Wr) (p : Int) : Int × Int :=
  if (chkS l).1 ≠ 0 then (0, (chkS l).1) else if 1 ≤ p ∧ p ≤ 8 then (match l.findIdx? (fun x => decide (x.2.2 = p)) with | none => (-1, 0) | some i => ((i : Int), 0)) else (0, 2)
set_option maxRecDepth 100000 in
set_option maxHeartbeats 4000000 in
theorem claimed_any (A : Option Addr) (c : Nat) (l : List Wr) (p : Int) (w : World) (ha : SW w A l) (la : l.length ≤ 1000) {n z : Int} (h : clmS l p = (n, z)) :
    Calls Try.prog 44 #[.slice A l.length c, .int .i64 p] w fun e w' => e = .returned (.tuple #[.int .i64 n, .int .i64 z]) ∧ Below w.heap.size w w' := by
  have HS := Lib.hid ha
  clear ha
  by_cases hz : (chkS l).1 = 0
  · have HZ := Lib.hid hz
    cases d1 : decide (1 ≤ p ∧ p ≤ 8) with
    | true =>
      have hp : 1 ≤ p ∧ p ≤ 8 := by simpa using d1
      unfold clmS at h
      rw [if_neg (by simp [hz]), if_pos hp] at h
      cases hq : l.findIdx? (fun x => decide (x.2.2 = p)) with
      | none =>
        rw [hq] at h
        obtain ⟨rfl, rfl⟩ := Prod.mk.inj h
        have hL : Hid ((mapOf l).lookup (3, p) = none) := by show _ = _; rw [look_claim (by omega), hq]; rfl
        clear hp hz hq h
        go_enter Try.func44, Try.ntmps44
        go_wp2_with (first | (go_at_call 42; with_reducible refine (isProc_b _ _ d1 _).mono ?_; rintro e w' ⟨rfl, rfl⟩) | (go_at_call 34; with_reducible refine (read_good _ _ _ _ HS.out la HZ.out).mono ?_; rintro e w1 ⟨B, rfl, hB, hm, hb1⟩; have hlk := rlook hm 3 p hL.out; simp only [okOf] at hlk))
        refine bodyPost_ret (v := .tuple #[.int .i64 (-1), .int .i64 0]) (by simp [results, Try.results44, go_sem]) rfl ?_
        exact ⟨rfl, hb1⟩
      | some k =>
        rw [hq] at h
        obtain ⟨rfl, rfl⟩ := Prod.mk.inj h
        have hL : Hid ((mapOf l).lookup (3, p) = some (k : Int)) := by show _ = _; rw [look_claim (by omega), hq]; rfl
        clear hp hz hq h
        go_enter Try.func44, Try.ntmps44
        go_wp2_with (first | (go_at_call 42; with_reducible refine (isProc_b _ _ d1 _).mono ?_; rintro e w' ⟨rfl, rfl⟩) | (go_at_call 34; with_reducible refine (read_good _ _ _ _ HS.out la HZ.out).mono ?_; rintro e w1 ⟨B, rfl, hB, hm, hb1⟩; have hlk := rlook hm 3 p hL.out; simp only [okOf] at hlk))
        refine bodyPost_ret (v := .tuple #[.int .i64 k, .int .i64 0]) (by simp [results, Try.results44, go_sem]) rfl ?_
        exact ⟨rfl, hb1⟩
    | false =>
      have hp : ¬(1 ≤ p ∧ p ≤ 8) := by simpa using d1
      unfold clmS at h
      rw [if_neg (by simp [hz]), if_neg hp] at h
      obtain ⟨rfl, rfl⟩ := Prod.mk.inj h
      clear hp hz h
      go_enter Try.func44, Try.ntmps44
      go_wp2_with (first | (go_at_call 42; with_reducible refine (isProc_b _ _ d1 _).mono ?_; rintro e w' ⟨rfl, rfl⟩) | (go_at_call 34; with_reducible refine (read_good _ _ _ _ HS.out la HZ.out).mono ?_; rintro e w1 ⟨B, rfl, hB, hm, hb1⟩))
      refine bodyPost_ret (v := .tuple #[.int .i64 0, .int .i64 2]) (by simp [results, Try.results44, go_sem]) rfl ?_
      exact ⟨rfl, hb1⟩
  · obtain ⟨⟨y, k⟩, hk⟩ : ∃ r, chkS l = r := ⟨_, rfl⟩
    rw [hk] at hz
    unfold clmS at h
    rw [hk, if_pos hz] at h
    obtain ⟨rfl, rfl⟩ := Prod.mk.inj h
    have hzb : (y != 0) = true := by simpa using hz
    have HK := Lib.hid hk
    have HN := Lib.hid hz
    clear hk h hz
    go_enter Try.func44, Try.ntmps44
    go_wp2_with (first | (go_at_call 34; with_reducible refine (read_bad _ _ _ _ HS.out la HK.out HN.out).mono ?_; rintro e w1 ⟨rfl, hb1⟩))
    refine bodyPost_ret (v := .tuple #[.int .i64 0, .int .i64 y]) (by simp [results, Try.results44, go_sem]) rfl ?_
    exact ⟨rfl, hb1⟩

theorem clmS_cases (l : List Wr) (p : Int) : (∃ n z, clmS l p = (n, z) ∧ z ≠ 0) ∨ clmS l p = (-1, 0) ∨ ∃ i : Nat, clmS l p = ((i : Int), 0) ∧ i < l.length := by
  unfold clmS
  by_cases h : (chkS l).1 ≠ 0
  · exact .inl ⟨_, _, if_pos h, h⟩
  · rw [if_neg h]
    by_cases hp : 1 ≤ p ∧ p ≤ 8
    · rw [if_pos hp]
      cases hq : l.findIdx? (fun x => decide (x.2.2 = p)) with
      | none => exact .inr (.inl rfl)
      | some k => exact .inr (.inr ⟨k, rfl, (List.findIdx?_eq_some_iff_getElem.1 hq).1⟩)
    · exact .inl ⟨_, _, if_neg hp, by decide⟩

/-- Of: the write, whether there is one, the error. -/
def ofS (l : List Wr) (p : Int) : Wr × Bool × Int := if (clmS l p).2 ≠ 0 ∨ (clmS l p).1 < 0 then ((0, 0, 0), false, (clmS l p).2) else (l.getD (clmS l p).1.toNat (0, 0, 0), true, 0)
def OfPost (R : Wr × Bool × Int) (w : World) (e : Ending) (w' : World) : Prop :=
  e = .returned (.tuple #[.agg #[.int .i64 R.1.1, .int .i64 R.1.2.1, .int .i64 R.1.2.2], .bool R.2.1, .int .i64 R.2.2]) ∧ Below w.heap.size w w'
theorem box3 {w w1 : World} {B : Nat} (hB : B = w.heap.size) (hb : Below (w.alloc (.cells #[.int .i64 0, .int .i64 0, .int .i64 0] 28)).heap.size (w.alloc (.cells #[.int .i64 0, .int .i64 0, .int .i64 0] 28)) w1) :
    (w1.cell? ⟨B, 0, none⟩ = some (.int .i64 0) ∧ w1.cell? ⟨B, 1, none⟩ = some (.int .i64 0) ∧ w1.cell? ⟨B, 2, none⟩ = some (.int .i64 0)) ∧
    (w1.frozen? ⟨B, 0, none⟩ = false ∧ w1.frozen? ⟨B, 1, none⟩ = false ∧ w1.frozen? ⟨B, 2, none⟩ = false) ∧ B < w1.heap.size ∧ Below w.heap.size w w1 := by
  subst hB
  have kb : Blk w1 w.heap.size 28 #[.int .i64 0, .int .i64 0, .int .i64 0] := Blk.below_ (Blk.new_ rfl rfl) hb (by simp)
  have k0 := kb.cell_ 0
  have k1 := kb.cell_ 1
  have k2 := kb.cell_ 2
  simp at k0 k1 k2
  exact ⟨⟨k0, k1, k2⟩, ⟨kb.frozen_ 0, kb.frozen_ 1, kb.frozen_ 2⟩, kb.lt, (by repeat' (first | with_reducible exact Below.refl _ _ | with_reducible assumption | with_reducible apply Below.drew | with_reducible apply below_drewN | with_reducible apply Below.alloc | with_reducible apply Below.setCell | (with_reducible refine Below.trans ?_ (Below.mono (by assumption) ?_)) | (simp; done) | (simp; omega) | omega | with_reducible apply le_size_alloc | with_reducible apply le_size_drewN | with_reducible apply le_size_drew | with_reducible apply le_size_setCell | refine Nat.le_trans ?_ (Below.size (by assumption))))⟩

set_option maxRecDepth 100000 in
set_option maxHeartbeats 4000000 in
theorem Of_any (A : Option Addr) (c : Nat) (l : List Wr) (p : Int) (w : World) (ha : SW w A l) (la : l.length ≤ 1000) :
    Calls Try.prog 24 #[.slice A l.length c, .int .i64 p] w (OfPost (ofS l p) w) := by
  have HS := Lib.hid ha
  clear ha
  rcases clmS_cases l p with ⟨n, z, h, hz⟩ | h | ⟨i, h, hi⟩
  · have hF : Hid (ofS l p = ((0, 0, 0), false, z)) := by show _ = _; unfold ofS; rw [h, if_pos (.inl hz)]
    have hzb : (z != 0) = true := by simpa using hz
    have H := Lib.hid h
    clear h
    go_enter Try.func24, Try.ntmps24
    go_wp2_with fail
    refine (claimed_any _ _ _ _ _ (HS.out.ext (by repeat' (first | with_reducible exact Below.refl _ _ | with_reducible assumption | with_reducible apply Below.drew | with_reducible apply below_drewN | with_reducible apply Below.alloc | with_reducible apply Below.setCell | (with_reducible refine Below.trans ?_ (Below.mono (by assumption) ?_)) | (simp; done) | (simp; omega) | omega | with_reducible apply le_size_alloc | with_reducible apply le_size_drewN | with_reducible apply le_size_drew | with_reducible apply le_size_setCell | refine Nat.le_trans ?_ (Below.size (by assumption))))) la H.out).mono ?_
    rintro e w1 ⟨rfl, hb1⟩
    obtain ⟨⟨k0, k1, k2⟩, ⟨f0, f1, f2⟩, kl, hbw⟩ := box3 rfl hb1
    go_wp2_with fail
    refine bodyPost_ret (v := .tuple #[.agg #[.int .i64 0, .int .i64 0, .int .i64 0], .bool false, .int .i64 z]) (by simp [results, Try.results24, go_sem, k0, k1, k2]) rfl ?_
    unfold OfPost
    rw [hF.out]
    exact ⟨rfl, (by repeat' (first | with_reducible exact Below.refl _ _ | with_reducible assumption | with_reducible apply Below.drew | with_reducible apply below_drewN | with_reducible apply Below.alloc | with_reducible apply Below.setCell | (with_reducible refine Below.trans ?_ (Below.mono (by assumption) ?_)) | (simp; done) | (simp; omega) | omega | with_reducible apply le_size_alloc | with_reducible apply le_size_drewN | with_reducible apply le_size_drew | with_reducible apply le_size_setCell | refine Nat.le_trans ?_ (Below.size (by assumption))))⟩
  · have hF : Hid (ofS l p = ((0, 0, 0), false, 0)) := by show _ = _; unfold ofS; rw [h, if_pos (.inr (by decide))]
    have H := Lib.hid h
    clear h
    go_enter Try.func24, Try.ntmps24
    go_wp2_with fail
    refine (claimed_any _ _ _ _ _ (HS.out.ext (by repeat' (first | with_reducible exact Below.refl _ _ | with_reducible assumption | with_reducible apply Below.drew | with_reducible apply below_drewN | with_reducible apply Below.alloc | with_reducible apply Below.setCell | (with_reducible refine Below.trans ?_ (Below.mono (by assumption) ?_)) | (simp; done) | (simp; omega) | omega | with_reducible apply le_size_alloc | with_reducible apply le_size_drewN | with_reducible apply le_size_drew | with_reducible apply le_size_setCell | refine Nat.le_trans ?_ (Below.size (by assumption))))) la H.out).mono ?_
    rintro e w1 ⟨rfl, hb1⟩
    obtain ⟨⟨k0, k1, k2⟩, ⟨f0, f1, f2⟩, kl, hbw⟩ := box3 rfl hb1
    go_wp2_with fail
    refine bodyPost_ret (v := .tuple #[.agg #[.int .i64 0, .int .i64 0, .int .i64 0], .bool false, .int .i64 0]) (by simp [results, Try.results24, go_sem, k0, k1, k2]) rfl ?_
    unfold OfPost
    rw [hF.out]
    exact ⟨rfl, (by repeat' (first | with_reducible exact Below.refl _ _ | with_reducible assumption | with_reducible apply Below.drew | with_reducible apply below_drewN | with_reducible apply Below.alloc | with_reducible apply Below.setCell | (with_reducible refine Below.trans ?_ (Below.mono (by assumption) ?_)) | (simp; done) | (simp; omega) | omega | with_reducible apply le_size_alloc | with_reducible apply le_size_drewN | with_reducible apply le_size_drew | with_reducible apply le_size_setCell | refine Nat.le_trans ?_ (Below.size (by assumption))))⟩
  · obtain ⟨b, off, x, rfl, hb, hx, hc0, hc1, hc2⟩ := HS.out.at_ hi
    have hF : Hid (ofS l p = (x, true, 0)) := by
      show _ = _; unfold ofS; rw [h, if_neg (by simp), List.getD_eq_getElem?_getD]
      show (l[i]?.getD _, _, _) = _
      rw [hx]; rfl
    have i1 : (i : Int) < l.length := by omega
    have H := Lib.hid h; have HX := Lib.hid hx
    clear h hx
    go_enter Try.func24, Try.ntmps24
    go_wp2_with fail
    refine (claimed_any _ _ _ _ _ (HS.out.ext (by repeat' (first | with_reducible exact Below.refl _ _ | with_reducible assumption | with_reducible apply Below.drew | with_reducible apply below_drewN | with_reducible apply Below.alloc | with_reducible apply Below.setCell | (with_reducible refine Below.trans ?_ (Below.mono (by assumption) ?_)) | (simp; done) | (simp; omega) | omega | with_reducible apply le_size_alloc | with_reducible apply le_size_drewN | with_reducible apply le_size_drew | with_reducible apply le_size_setCell | refine Nat.le_trans ?_ (Below.size (by assumption))))) la H.out).mono ?_
    rintro e w1 ⟨rfl, hb1⟩
    obtain ⟨⟨k0, k1, k2⟩, ⟨f0, f1, f2⟩, kl, hbw⟩ := box3 rfl hb1
    have hd0 : w1.cell? ⟨b, off + i * 3, none⟩ = some (.int .i64 x.1) := cell_keep hbw hc0 hb
    have hd1 : w1.cell? ⟨b, off + i * 3 + 1, none⟩ = some (.int .i64 x.2.1) := cell_keep hbw hc1 hb
    have hd2 : w1.cell? ⟨b, off + i * 3 + 2, none⟩ = some (.int .i64 x.2.2) := cell_keep hbw hc2 hb
    obtain ⟨r0, r1, r2⟩ := cells3 k0 k1 k2 (.int .i64 x.1) (.int .i64 x.2.1) (.int .i64 x.2.2)
    have HR := Lib.hid (And.intro r0 (And.intro r1 r2))
    clear r0 r1 r2
    go_wp2_with fail
    obtain ⟨r0, r1, r2⟩ := HR.out
    refine bodyPost_ret (v := .tuple #[.agg #[.int .i64 x.1, .int .i64 x.2.1, .int .i64 x.2.2], .bool true, .int .i64 0]) (by simp [results, Try.results24, go_sem, r0, r1, r2]) rfl ?_
    unfold OfPost
    rw [hF.out]
    exact ⟨rfl, (by repeat' (first | with_reducible exact Below.refl _ _ | with_reducible assumption | with_reducible apply Below.drew | with_reducible apply below_drewN | with_reducible apply Below.alloc | with_reducible apply Below.setCell | (with_reducible refine Below.trans ?_ (Below.mono (by assumption) ?_)) | (simp; done) | (simp; omega) | omega | with_reducible apply le_size_alloc | with_reducible apply le_size_drewN | with_reducible apply le_size_drew | with_reducible apply le_size_setCell | refine Nat.le_trans ?_ (Below.size (by assumption))))⟩

/-- Unclaim: the list, whether there was a claim, the error. -/
def uncS (l : List Wr) (p : Int) : List Wr × Bool × Int :=
  if (clmS l p).2 ≠ 0 then ([], false, (clmS l p).2) else if (clmS l p).1 < 0 then (l, false, 0) else
    (l.set (clmS l p).1.toNat ((l.getD (clmS l p).1.toNat (0, 0, 0)).1, (l.getD (clmS l p).1.toNat (0, 0, 0)).2.1, 0), true, 0)
def UncPost (R : List Wr × Bool × Int) (w : World) (e : Ending) (w' : World) : Prop :=
  ∃ A c, e = .returned (.tuple #[.slice A R.1.length c, .bool R.2.1, .int .i64 R.2.2]) ∧ CW w' A c R.1 ∧ Below w.heap.size w w'
set_option maxRecDepth 100000 in
set_option maxHeartbeats 4000000 in
theorem Unclaim_any (A : Option Addr) (c : Nat) (l : List Wr) (p : Int) (w : World) (ha : SW w A l) (la : l.length ≤ 1000) :
    Calls Try.prog 25 #[.slice A l.length c, .int .i64 p] w (UncPost (uncS l p) w) := by
  have HS := Lib.hid ha
  clear ha
  rcases clmS_cases l p with ⟨n, z, h, hz⟩ | h | ⟨i, h, hi⟩
  · have hF : Hid (uncS l p = ([], false, z)) := by show _ = _; unfold uncS; rw [h, if_pos hz]
    have hzb : (z != 0) = true := by simpa using hz
    have H := Lib.hid h
    clear h
    go_enter Try.func25, Try.ntmps25
    go_wp2_with (first | (go_at_call 44; with_reducible refine (claimed_any _ _ _ _ _ HS.out la H.out).mono ?_; rintro e w1 ⟨rfl, hb1⟩))
    refine bodyPost_ret (v := .tuple #[.slice none 0 0, .bool false, .int .i64 z]) (by simp [results, Try.results25, go_sem]) rfl ?_
    unfold UncPost
    rw [hF.out]
    exact ⟨none, 0, rfl, CW.nil, hb1⟩
  · have hF : Hid (uncS l p = (l, false, 0)) := by show _ = _; unfold uncS; rw [h, if_neg (by simp), if_pos (by decide)]
    have H := Lib.hid h
    clear h
    go_enter Try.func25, Try.ntmps25
    go_wp2_with (first | (go_at_call 44; with_reducible refine (claimed_any _ _ _ _ _ HS.out la H.out).mono ?_; rintro e w1 ⟨rfl, hb1⟩))
    refine (CloneW_any _ _ _ _ (HS.out.ext hb1) la).mono ?_
    rintro e w2 ⟨A2, c2, rfl, hM2, hcap, hb2⟩
    go_wp2_with fail
    refine bodyPost_ret (v := .tuple #[.slice A2 l.length c2, .bool false, .int .i64 0]) (by simp [results, Try.results25, go_sem]) rfl ?_
    unfold UncPost
    rw [hF.out]
    exact ⟨A2, c2, rfl, ⟨hM2.sw, hcap⟩, (by repeat' (first | with_reducible exact Below.refl _ _ | with_reducible assumption | with_reducible apply Below.drew | with_reducible apply below_drewN | with_reducible apply Below.alloc | with_reducible apply Below.setCell | (with_reducible refine Below.trans ?_ (Below.mono (by assumption) ?_)) | (simp; done) | (simp; omega) | omega | with_reducible apply le_size_alloc | with_reducible apply le_size_drewN | with_reducible apply le_size_drew | with_reducible apply le_size_setCell | refine Nat.le_trans ?_ (Below.size (by assumption))))⟩
  · obtain ⟨b, off, x, rfl, hb, hx, hc0, hc1, hc2⟩ := HS.out.at_ hi
    have hF : Hid (uncS l p = (l.set i (x.1, x.2.1, 0), true, 0)) := by
      have hgd : l.getD i (0, 0, 0) = x := by rw [List.getD_eq_getElem?_getD, hx]; rfl
      show _ = _; unfold uncS; rw [h, if_neg (by simp), if_neg (by simp)]
      show (l.set i ((l.getD i (0, 0, 0)).1, (l.getD i (0, 0, 0)).2.1, 0), _, _) = _
      rw [hgd]
    have i1 : (i : Int) < l.length := by omega
    have H := Lib.hid h; have HX := Lib.hid hx
    clear h hx hc0 hc1 hc2
    go_enter Try.func25, Try.ntmps25
    go_wp2_with (first | (go_at_call 44; with_reducible refine (claimed_any _ _ _ _ _ HS.out la H.out).mono ?_; rintro e w1 ⟨rfl, hb1⟩))
    refine (CloneW_any _ _ _ _ (HS.out.ext hb1) la).mono ?_
    rintro e w2 ⟨A2, c2, rfl, hM2, hcap, hb2⟩
    have hM3 : OwnW w2 w1.heap.size (.slice A2 l.length c2) l := Or.resolve_left hM2 (fun e => by rw [e] at hi; simp at hi)
    obtain ⟨g, rfl, hg, q0, q1, q2⟩ := hM3.put HX.out
    have Q2 := Lib.hid (q2 0)
    clear q2 hM2 hM3
    go_wp2_with fail
    refine bodyPost_ret (v := .tuple #[.slice (some ⟨g, 0, none⟩) l.length c2, .bool true, .int .i64 0]) (by simp [results, Try.results25, go_sem]) rfl ?_
    unfold UncPost
    rw [hF.out]
    exact ⟨_, c2, by simp, ⟨Q2.out, by simpa using hcap⟩, (hb1.trans (hb2.mono hb1.size)).setCell (show w.heap.size ≤ g from Nat.le_trans hb1.size hg) _⟩
end Go.Proofs.Ytnglompninkmbaa
