/- Contracts of package readin: events. -/
import Derived.Test.YtngenoblifhnpaaDoorRi2
import Derived.Test.YtngenoblifhnpaaDoorAppI
namespace Go.Proofs.YtngenoblifhnpaaDoor
open Go.RowKit Go.Maps

/-- The slice value '.slice A xs.length c' holds the ints xs, and its capacity is no less. -/
def IW (w : World) (A : Option Addr) (c : Nat) (xs : List Int) : Prop := Sl w (.int .i64) A xs ∧ xs.length ≤ c
theorem IW.ext {w w' : World} {A : Option Addr} {c : Nat} {xs : List Int} (h : IW w A c xs) (hb : Below w.heap.size w w') : IW w' A c xs := ⟨h.1.ext hb, h.2⟩
theorem IW.nil {w : World} {A : Option Addr} {c : Nat} : IW w A c [] := ⟨Sl.nil, Nat.zero_le _⟩
theorem Own.iw {w : World} {base : Nat} {A : Option Addr} {c : Nat} {xs : List Int} (h : Own w base 3 (.int .i64) (.slice A xs.length c) xs) : IW w A c xs := by
  refine ⟨?_, ?_⟩
  · obtain ⟨A', c', e, hs⟩ := h.sl
    injection e with e1 e2 e3
    subst e1
    exact hs
  · rcases h.form with ⟨e0, rfl⟩ | ⟨g, cur, e0, _, _, hs, _, _⟩
    · simp
    · injection e0 with e1 e2 e3
      omega
/-- The same, in memory from base on. -/
def IWn (w : World) (base : Nat) (A : Option Addr) (c : Nat) (xs : List Int) : Prop := IW w A c xs ∧ (0 < xs.length → ∃ b off, A = some ⟨b, off, none⟩ ∧ base ≤ b)
theorem IWn.nil {w : World} {base : Nat} {A : Option Addr} {c : Nat} : IWn w base A c [] := ⟨IW.nil, fun h => absurd h (by simp)⟩
theorem Own.iwn {w : World} {base B : Nat} {A : Option Addr} {c : Nat} {xs : List Int} (h : Own w base 3 (.int .i64) (.slice A xs.length c) xs) (hB : B ≤ base) : IWn w B A c xs := by
  refine ⟨h.iw, fun hp => ?_⟩
  rcases h.form with ⟨e0, rfl⟩ | ⟨g, cur, e0, hb, _, _, _, _⟩
  · simp at hp
  · injection e0 with e1
    exact ⟨g, 0, e1, by omega⟩
theorem IWn.far {w : World} {base : Nat} {A : Option Addr} {c : Nat} {xs : List Int} (h : IWn w base A c xs) {g : Nat} (o : Nat) (u : Value) (hg : g < base) : IWn (w.setCell ⟨g, o, none⟩ u) base A c xs := by
  refine ⟨⟨fun hp => ?_, h.1.2⟩, h.2⟩
  obtain ⟨b, off, rfl, hb, hc⟩ := h.1.1 hp
  obtain ⟨b', off', e, hB⟩ := h.2 hp
  injection e with e
  injection e with e1 e2
  subst e1 e2
  refine ⟨b, off, rfl, by simpa [World.setCell] using hb, fun j x hx => ?_⟩
  rw [World.cell?_setCell_other _ _ _ _ (by intro e; injection e with e1 e2; omega)]
  exact hc j x hx
theorem IWn.ext {w w' : World} {base : Nat} {A : Option Addr} {c : Nat} {xs : List Int} (h : IWn w base A c xs) (hb : Below w.heap.size w w') : IWn w' base A c xs := ⟨h.1.ext hb, h.2⟩
theorem IWn.mono {w : World} {base B : Nat} {A : Option Addr} {c : Nat} {xs : List Int} (h : IWn w base A c xs) (hB : B ≤ base) : IWn w B A c xs := ⟨h.1, fun hp => by obtain ⟨b, off, e, hb⟩ := h.2 hp; exact ⟨b, off, e, by omega⟩⟩
/-- The events up to n that are not refused. -/
def evTo (r : RI) : Nat → List Int
  | 0 => []
  | n + 1 => evTo r n ++ (if canR r (n + 1) then [(n : Int) + 1] else [])
theorem evTo_six (r : RI) : evTo r 6 = evsR r := by
  unfold evsR
  have e : ∀ (a : Int) (l : List Int), List.filter (fun e => canR r e) (a :: l) = (if canR r a then [a] else []) ++ List.filter (fun e => canR r e) l := fun a l => by
    cases h : canR r a <;> simp [h]
  rw [e, e, e, e, e, e]
  simp [evTo]
theorem evTo_len (r : RI) : ∀ n, (evTo r n).length ≤ n
  | 0 => by simp [evTo]
  | n + 1 => by
    have := evTo_len r n
    rw [evTo, List.length_append]
    split <;> simp <;> omega

set_option maxRecDepth 100000 in
set_option maxHeartbeats 4000000 in
theorem events_n (s f g : Int) (w : World) (hal : AL w) (h1 : 1 ≤ s) (h8 : s ≤ 8) :
    Calls Tryd.prog 36 #[.agg #[.int .i64 s, .int .i64 f, .int .i64 g]] w fun e w' => ∃ A c, e = .returned (.slice A (evsR (s, f, g)).length c) ∧ IWn w' w.heap.size A c (evsR (s, f, g)) ∧ Below w.heap.size w w' := by
  have HAL := Lib.hid hal
  clear hal
  obtain ⟨i0, hi0, hz0, hz1, hz2⟩ := info_parts intInfo
  go_enter Tryd.func36, Tryd.ntmps36
  go_wp2_with fail
  obtain ⟨W, hW⟩ : ∃ W, w.alloc (.cells #[.int .i64 s, .int .i64 f, .int .i64 g] 23) = W := ⟨_, rfl⟩
  have BW : Below w.heap.size w W := by rw [← hW]; exact (Below.refl _ _).alloc (Nat.le_refl _) _
  have kb : Blk W w.heap.size 23 #[.int .i64 s, .int .i64 f, .int .i64 g] := by rw [← hW]; exact Blk.new_ rfl rfl
  have hWs : W.heap.size = w.heap.size + 1 := by rw [← hW]; simp
  rw [hW]
  clear hW
  go_loopw [3, 4] (fun v i wr => ∃ k : Nat, k ≤ 6 ∧ i = .int .i64 ((k : Int) + 1) ∧ ∃ A c, v = .slice A (evTo (s, f, g) k).length c ∧ Own wr W.heap.size 3 (.int .i64) (.slice A (evTo (s, f, g) k).length c) (evTo (s, f, g) k) ∧ Below W.heap.size W wr) (fun _ i _ => 7 - (intOf i).toNat)
  case atStart => exact ⟨0, by omega, rfl, none, 0, rfl, World.ownsRow_nil _ _ _ _, Below.refl _ _⟩
  case round =>
    obtain ⟨k, hk, rfl, A2, c2, rfl, ho2, hb2⟩ := hrel
    have HO2 := Lib.hid ho2
    clear ho2
    by_cases hk' : k < 6
    · have i1 : (k : Int) + 1 ≤ 6 := by omega
      have i2 : (1 : Int) ≤ (k : Int) + 1 := by omega
      have kb2 := kb.below_ hb2 kb.lt
      have q0 := kb2.cell_ 0
      have q1 := kb2.cell_ 1
      have q2 := kb2.cell_ 2
      simp at q0 q1 q2
      have hel := evTo_len (s, f, g) k
      have HAW : Hid (AL wr) := HAL.out.ext (BW.trans (hb2.mono BW.size))
      obtain ⟨xs, hxs⟩ : ∃ xs, evTo (s, f, g) k = xs := ⟨_, rfl⟩
      have HT : Hid (evTo (s, f, g) (k + 1) = xs ++ (if canR (s, f, g) ((k : Int) + 1) then [(k : Int) + 1] else [])) := by show _ = _; rw [evTo, hxs]
      rw [hxs] at HO2 hel ⊢
      clear hxs kb2
      cases hc : canR (s, f, g) ((k : Int) + 1) with
      | true =>
        have HT2 : Hid (evTo (s, f, g) (k + 1) = xs ++ [(k : Int) + 1]) := by show _ = _; rw [HT.out, hc]; rfl
        go_wp2_with (first | (go_at_call 40; with_reducible refine (can_any s f g ((k : Int) + 1) _ HAW.out h1 h8 i2 i1).mono ?_; rw [hc]; rintro e w3 ⟨rfl, hb3⟩) | (at_builtin; refine wpList_appS' (mk := Value.int .i64) _ rfl (.tmp 12) (.tmp 14) _ rfl 3 i0 _ 8 Tryd.underlying32 hi0 hz0 hz1 hz2 rfl W.heap.size A2 c2 xs rfl ?_ _ 1 [(k : Int) + 1] (by simp) rfl (Sl.of_lit (t := 3) (xs := [(k : Int) + 1]) ?_) (int_one _) (by simp; omega) (by simp; omega) ?_ ?_; (exact HO2.out.below (by repeat' (first | with_reducible exact Below.refl _ _ | with_reducible assumption | with_reducible apply Below.drew | with_reducible apply below_drewN | with_reducible apply Below.alloc | with_reducible apply Below.setCell | (with_reducible refine Below.trans ?_ (Below.mono (by assumption) ?_)) | (simp; done) | (simp; omega) | omega | with_reducible apply le_size_alloc | with_reducible apply le_size_drewN | with_reducible apply le_size_drew | with_reducible apply le_size_setCell | refine Nat.le_trans ?_ (Below.size (by assumption))))); (exact (by repeat' (first | with_reducible assumption | (with_reducible refine Blk.new_ ?_ ?_ <;> first | (simp; done) | rfl) | with_reducible apply Blk.drew_ | with_reducible apply Blk.drewN_ | with_reducible apply Blk.alloc_ | with_reducible refine Blk.far_ ?_ ?_ _ | (with_reducible refine Blk.below_ ?_ (by assumption) ?_) | (simp; done) | (simp; omega) | omega | with_reducible apply le_size_alloc | with_reducible apply lt_size_alloc | with_reducible apply le_size_drewN | with_reducible apply le_size_drew | with_reducible apply le_size_setCell | refine Nat.lt_of_lt_of_le ?_ (Below.size (by assumption)) | refine Nat.le_trans ?_ (Below.size (by assumption))))); (exact Nat.le_trans hb2.size (Nat.le_trans hb3.size (by simp))); intro A4 c4 w4 ho4 hb4))
        go_roundw
        case rel =>
          refine ⟨k + 1, by omega, by go_num, A4, c4, ?_, ?_, hb2.trans ((hb3.mono hb2.size).trans (show Below W.heap.size w3 w4 from (by repeat' (first | with_reducible exact Below.refl _ _ | with_reducible assumption | with_reducible apply Below.drew | with_reducible apply below_drewN | with_reducible apply Below.alloc | with_reducible apply Below.setCell | (with_reducible refine Below.trans ?_ (Below.mono (by assumption) ?_)) | (simp; done) | (simp; omega) | omega | with_reducible apply le_size_alloc | with_reducible apply le_size_drewN | with_reducible apply le_size_drew | with_reducible apply le_size_setCell | refine Nat.le_trans ?_ (Below.size (by assumption))))))⟩
          · rw [HT2.out]; simp
          · rw [HT2.out]; exact ho4
        case measure => simp [intOf]; omega
      | false =>
        have HT2 : Hid (evTo (s, f, g) (k + 1) = xs) := by show _ = _; rw [HT.out, hc]; simp
        go_wp2_with (first | (go_at_call 40; with_reducible refine (can_any s f g ((k : Int) + 1) _ HAW.out h1 h8 i2 i1).mono ?_; rw [hc]; rintro e w3 ⟨rfl, hb3⟩))
        go_roundw
        case rel =>
          refine ⟨k + 1, by omega, by go_num, A2, c2, ?_, ?_, hb2.trans (hb3.mono hb2.size)⟩
          · rw [HT2.out]
          · rw [HT2.out]; exact HO2.out.below hb3
        case measure => simp [intOf]; omega
    · obtain rfl : k = 6 := by omega
      rw [evTo_six] at HO2 ⊢
      go_wp2_with fail
      go_ret
      exact ⟨A2, c2, rfl, HO2.out.iwn BW.size, BW.trans (hb2.mono BW.size)⟩
theorem events_any (s f g : Int) (w : World) (hal : AL w) (h1 : 1 ≤ s) (h8 : s ≤ 8) :
    Calls Tryd.prog 36 #[.agg #[.int .i64 s, .int .i64 f, .int .i64 g]] w fun e w' => ∃ A c, e = .returned (.slice A (evsR (s, f, g)).length c) ∧ IW w' A c (evsR (s, f, g)) ∧ Below w.heap.size w w' :=
  (events_n s f g w hal h1 h8).mono fun _ _ ⟨A, c, h, hi, hb⟩ => ⟨A, c, h, hi.1, hb⟩
end Go.Proofs.YtngenoblifhnpaaDoor
