/- Valid lists made of numbers. -/
import Derived.Test.YtjilfijpepbfeaaLruK
import Derived.Test.YtjilfijpepbfeaaApp
import Derived.Test.YtjilfijpepbfeaaKit
namespace Go.Proofs.Ytjilfijpepbfeaa
open Go.RowKit Go.Maps

/-- The frame of round j. -/
def fr (j : Nat) : Int := ((5 * j + 3) % 16 : Nat)
/-- What holds of the lists after k rounds. -/
structure Md (k : Nat) (xs ys : List Int) (rs : List Bool) : Prop where
  len : rs.length = 16
  nodup : (xs ++ ys).Nodup
  from_ : ∀ x ∈ xs ++ ys, ∃ j, j < k ∧ x = fr j
  refs : ∀ m : Nat, rs[m]? = some true → (m : Int) ∈ xs ++ ys
theorem fr_inj {j k : Nat} (hj : j < k) (hk : k < 16) : fr j ≠ fr k := by unfold fr; omega
theorem fr_bd (k : Nat) : 0 ≤ fr k ∧ fr k < 16 := by unfold fr; omega
theorem Md.new {k : Nat} {xs ys : List Int} {rs : List Bool} (h : Md k xs ys rs) (hk : k < 16) : fr k ∉ xs ++ ys := fun hm => by
  obtain ⟨j, hj, e⟩ := h.from_ _ hm
  exact fr_inj hj hk e.symm
theorem Md.size {k : Nat} {xs ys : List Int} {rs : List Bool} (h : Md k xs ys rs) : xs.length + ys.length ≤ 16 := by
  have := nodup_len 16 _ h.nodup (fun x hx => by obtain ⟨j, _, rfl⟩ := h.from_ x hx; have := fr_bd j; omega)
  simpa using this
theorem Md.step {k : Nat} {xs ys xs' ys' : List Int} {rs : List Bool} (h : Md k xs ys rs) (hk : k < 16) (b : Bool) (hp : (xs' ++ ys').Perm (xs ++ ys) ∧ b = false ∨ (xs' ++ ys').Perm (fr k :: (xs ++ ys))) : Md (k + 1) xs' ys' (rs.set (fr k).toNat b) := by
  have hf := h.new hk
  have hb := fr_bd k
  refine ⟨by simpa using h.len, ?_, ?_, ?_⟩
  · rcases hp with ⟨hp, _⟩ | hp
    · exact hp.nodup_iff.2 h.nodup
    · exact hp.nodup_iff.2 (List.nodup_cons.2 ⟨hf, h.nodup⟩)
  · intro x hx
    rcases hp with ⟨hp, _⟩ | hp
    · obtain ⟨j, hj, e⟩ := h.from_ x (hp.mem_iff.1 hx)
      exact ⟨j, by omega, e⟩
    · rcases List.mem_cons.1 (hp.mem_iff.1 hx) with e | hx
      · exact ⟨k, by omega, e⟩
      · obtain ⟨j, hj, e⟩ := h.from_ x hx
        exact ⟨j, by omega, e⟩
  · intro m hm
    rw [List.getElem?_set] at hm
    by_cases e : (fr k).toNat = m
    · rw [if_pos e] at hm
      rcases hp with ⟨_, rfl⟩ | hp
      · split at hm <;> simp at hm
      · exact hp.mem_iff.2 (List.mem_cons.2 (.inl (by omega)))
    · rw [if_neg e] at hm
      have := h.refs m hm
      rcases hp with ⟨hp, _⟩ | hp
      · exact hp.mem_iff.2 this
      · exact hp.mem_iff.2 (List.mem_cons.2 (.inr this))
theorem lruScan_none (n : Nat) (l : List Int) : ∀ seen, (∀ x ∈ l, 0 ≤ x ∧ x < n) → l.Nodup → (∀ x ∈ l, x ∉ seen) → lruScan n seen l = none := by
  induction l with
  | nil => intro seen _ _ _; rfl
  | cons f t ih =>
    intro seen h1 h2 h3
    rw [lruScan, if_pos (h1 f (by simp)), if_neg (h3 f (by simp))]
    have h4 := List.nodup_cons.1 h2
    refine ih _ (fun x hx => h1 x (by simp [hx])) h4.2 (fun x hx => ?_)
    simp only [List.mem_append, List.mem_singleton, not_or]
    exact ⟨h3 x (by simp [hx]), fun e => h4.1 (e ▸ hx)⟩
theorem Md.chk {k : Nat} {xs ys : List Int} {rs : List Bool} (h : Md k xs ys rs) : lruChk xs ys rs = 0 :=
  lruChk_ok (by rw [h.len]; omega) (lruScan_none _ _ _ (fun x hx => by obtain ⟨j, _, rfl⟩ := h.from_ x hx; have := fr_bd j; rw [h.len]; omega) h.nodup (fun _ _ => by simp)) h.refs
theorem Md.start : Md 0 [] [] (List.replicate 16 false) := ⟨by simp, by simp, by simp, fun m hm => by
  rw [List.getElem?_replicate] at hm
  split at hm <;> simp at hm⟩


theorem mk16 (w : World) : (Instr.makeSlice 23 (.int .i64 16) (.int .i64 16)).run Try.prog w = .ok (.slice (some ⟨w.heap.size, 0, none⟩) 16 16) (w.alloc (.cells #[.bool false, .bool false, .bool false, .bool false, .bool false, .bool false, .bool false, .bool false, .bool false, .bool false, .bool false, .bool false, .bool false, .bool false, .bool false, .bool false] 4)) := by kernel_rfl
theorem fr_eq (k : Nat) : (5 * (k : Int) + 3) % 16 = fr k := by unfold fr; omega
theorem perm_act (xs ys : List Int) (f : Int) : (xs ++ [f] ++ ys).Perm (f :: (xs ++ ys)) := by rw [List.append_assoc]; exact List.perm_middle

/-- The element number i of a list, or 0. -/
def atS (xs : List Int) (i : Int) : Int := if 0 ≤ i then xs.getD i.toNat 0 else 0
set_option maxHeartbeats 400000 in
theorem At_any (A : Option Addr) (c : Nat) (xs : List Int) (i : Int) (w : World) (h : Sl w (.int .i64) A xs) (hn : xs.length ≤ 9223372036854775807) :
    Calls Try.prog 54 #[.slice A xs.length c, .int .i64 i] w fun e w' => e = .returned (.int .i64 (atS xs i)) ∧ w = w' := by
  by_cases h0 : 0 ≤ i
  · by_cases h1 : i < xs.length
    · obtain ⟨b, off, x, rfl, hbl, hx, hc⟩ := h.at_ (k := i.toNat) (by omega)
      have HA : Hid (atS xs i = x) := by show _ = _; rw [atS, if_pos h0, List.getD_eq_getElem?_getD, hx]; rfl
      clear h hx
      go_enter Try.func54, Try.ntmps54
      go_wp2
      go_ret
      exact ⟨ret_int HA.out.symm, rfl⟩
    · have HA : Hid (atS xs i = 0) := by show _ = _; rw [atS, if_pos h0, List.getD_eq_getElem?_getD, List.getElem?_eq_none (by omega)]; rfl
      clear h
      go_enter Try.func54, Try.ntmps54
      go_wp2
      go_ret
      exact ⟨ret_int HA.out.symm, rfl⟩
  · have HA : Hid (atS xs i = 0) := by show _ = _; rw [atS, if_neg h0]
    clear h
    go_enter Try.func54, Try.ntmps54
    go_wp2
    go_ret
    exact ⟨ret_int HA.out.symm, rfl⟩

def MadePost (w : World) (e : Ending) (w' : World) : Prop :=
  ∃ A1 c1 A2 c2 A3 c3 xs ys rs, e = .returned (.agg #[.slice A1 xs.length c1, .slice A2 ys.length c2, .slice A3 rs.length c3]) ∧ OwnL w' w.heap.size A1 c1 A2 c2 A3 c3 xs ys rs ∧ Md 16 xs ys rs ∧ Below w.heap.size w w'

set_option maxRecDepth 100000 in
set_option maxHeartbeats 4000000 in
theorem made_any (A : Option Addr) (c : Nat) (nums : List Int) (w : World) (hn : Sl w (.int .i64) A nums) (hln : nums.length ≤ 9223372036854775807) :
    Calls Try.prog 26 #[.slice A nums.length c] w (MadePost w) := by
  obtain ⟨i0, hi0, hz0, hz1, hz2⟩ := info_parts intInfo
  have HN := Lib.hid hn
  clear hn
  have hmk := mk16
  go_enter Try.func26, Try.ntmps26
  go_wp2
  go_loopw [4] (fun i wr => ∃ k : Nat, k ≤ 16 ∧ i = .int .i64 k ∧ ∃ A1 c1 A2 c2 A3 c3 xs ys rs, RS wr (w.heap.size + 1) (w.heap.size + 2) A1 c1 A2 c2 A3 c3 xs ys rs ∧ Md k xs ys rs ∧
      Below (w.heap.size + 1) (w.alloc (.cells #[.slice none 0 0, .slice none 0 0, .slice none 0 0] 25)) wr) (fun i _ => 16 - (intOf i).toNat)
  case atStart =>
    refine ⟨0, by omega, rfl, none, 0, none, 0, some ⟨w.heap.size + 1, 0, none⟩, 16, [], [], List.replicate 16 false, ⟨?_, ⟨World.ownsRow_nil _ _ _ _, World.ownsRow_nil _ _ _ _, ?_, by simp, by simp, by simp⟩, by simp, by simp, by simp⟩, Md.start, (by repeat' (first | with_reducible exact Below.refl _ _ | with_reducible assumption | with_reducible apply Below.drew | with_reducible apply below_drewN | with_reducible apply Below.alloc | with_reducible apply Below.setCell | (with_reducible refine Below.trans ?_ (Below.mono (by assumption) ?_)) | (simp; done) | (simp; omega) | omega | with_reducible apply le_size_alloc | with_reducible apply le_size_drewN | with_reducible apply le_size_drew | with_reducible apply le_size_setCell | refine Nat.le_trans ?_ (Below.size (by assumption))))⟩
    · exact Blk.new_ (by simp) rfl
    · exact Own.of_blk (cur := #[.bool false, .bool false, .bool false, .bool false, .bool false, .bool false, .bool false, .bool false, .bool false, .bool false, .bool false, .bool false, .bool false, .bool false, .bool false, .bool false]) (xs := List.replicate 16 false) (by repeat' (first | with_reducible assumption | (with_reducible refine Blk.new_ ?_ ?_ <;> first | (simp; done) | rfl) | with_reducible apply Blk.drew_ | with_reducible apply Blk.drewN_ | with_reducible apply Blk.alloc_ | with_reducible refine Blk.far_ ?_ ?_ _ | (with_reducible refine Blk.below_ ?_ (by assumption) ?_) | (simp; done) | (simp; omega) | omega | with_reducible apply le_size_alloc | with_reducible apply lt_size_alloc | with_reducible apply le_size_drewN | with_reducible apply le_size_drew | with_reducible apply le_size_setCell | refine Nat.lt_of_lt_of_le ?_ (Below.size (by assumption)) | refine Nat.le_trans ?_ (Below.size (by assumption)))) (by omega) (by simp) (by decide) (fun j x hx => by
        rw [List.getElem?_replicate] at hx
        split at hx
        · rename_i hj
          injection hx with hx
          subst hx
          rcases (by omega : j = 0 ∨ j = 1 ∨ j = 2 ∨ j = 3 ∨ j = 4 ∨ j = 5 ∨ j = 6 ∨ j = 7 ∨ j = 8 ∨ j = 9 ∨ j = 10 ∨ j = 11 ∨ j = 12 ∨ j = 13 ∨ j = 14 ∨ j = 15) with h | h | h | h | h | h | h | h | h | h | h | h | h | h | h | h <;> subst h <;> rfl
        · cases hx)
  case round =>
    obtain ⟨k, hk, rfl, A1, c1, A2, c2, A3, c3, xs, ys, rs, rs1, hmd, hbR⟩ := hrel
    have hbW : Below w.heap.size w wr := ((Below.refl _ _).alloc (Nat.le_refl _) _).trans (hbR.mono (by omega))
    have hsz : w.heap.size + 2 < wr.heap.size := rs1.blk.lt
    by_cases hk' : k < 16
    · have hlen := hmd.len
      have hsm := hmd.size
      obtain ⟨f, hf⟩ : ∃ f, f = fr k := ⟨_, rfl⟩
      have hfb0 := fr_bd k
      rw [← hf] at hfb0
      obtain ⟨hf0, hf1⟩ := hfb0
      have hfe : (5 * (k : Int) + 3) % 16 = f := by rw [hf]; exact fr_eq k
      have HF : Hid (fr k = f) := hf.symm
      have HMd := Lib.hid hmd
      have HLEN := Lib.hid hlen
      have hlen' : 16 ≤ rs.length := by omega
      have hlen'' : rs.length ≤ 16 := by omega
      clear hf hmd hlen
      obtain ⟨kk, hkk⟩ : ∃ kk, atS nums k % 24 = kk := ⟨_, rfl⟩
      have kk0 : 0 ≤ kk := by omega
      have kk1 : kk < 24 := by omega
      have HKK := Lib.hid hkk
      clear hkk
      rcases (by omega : (kk % 3 = 0) ∨ (kk % 3 = 1 ∧ kk / 3 % 2 = 0) ∨ (kk % 3 = 1 ∧ kk / 3 % 2 = 1) ∨ (kk % 3 = 2 ∧ kk / 3 % 2 = 0) ∨ (kk % 3 = 2 ∧ kk / 3 % 2 = 1)) with m1 | ⟨m1, m2⟩ | ⟨m1, m2⟩ | ⟨m1, m2⟩ | ⟨m1, m2⟩
      · have rsC := rs1
        have k2 := (rsC.blk.cell_ 2).trans (by simp : _ = some (.slice A3 rs.length c3))
        obtain ⟨g3, hA3, hcb, hfb, hbg, rsF⟩ := rsC.bit (f := f.toNat) (by omega) false
        subst hA3
        go_wp2_with (first
          | (go_at_call 54; refine (At_any _ _ _ _ _ (HN.out.ext hbW) hln).mono ?_; rintro e w' ⟨rfl, rfl⟩)
          | (go_at_call 27; refine (Mod_any _ _ _ (by omega) (by omega)).mono ?_; rw [HKK.out]; rintro e w' ⟨rfl, rfl⟩))
        go_roundw
        case rel => exact ⟨k + 1, by omega, by go_num, A1, c1, A2, c2, _, c3, xs, ys, _, rsF, (by rw [← HF.out]; exact HMd.out.step hk' false (.inl ⟨List.Perm.refl _, rfl⟩)), hbR.setCell (by show _ ≤ g3; omega) _⟩
        case measure => simp [intOf]; omega
      · have k0 := (rs1.blk.cell_ 0).trans (by simp : _ = some (.slice A1 xs.length c1))
        have rs2 := rs1.ext ((Below.refl _ _).alloc (Nat.le_refl _) (.cells #[.int .i64 f] 3))
        have hsf : Sl (wr.alloc (.cells #[.int .i64 f] 3)) (Value.int .i64) (some ⟨wr.heap.size, 0, none⟩) [f] := Sl.of_lit (t := 3) (Blk.new_ rfl rfl)
        obtain ⟨vs, hvs⟩ : ∃ vs, xs ++ [f] = vs := ⟨_, rfl⟩
        have HSF := Lib.hid hsf; have HVS := Lib.hid hvs
        clear hsf hvs
        go_wp2_with (first
          | (go_at_call 54; refine (At_any _ _ _ _ _ (HN.out.ext hbW) hln).mono ?_; rintro e w' ⟨rfl, rfl⟩)
          | (go_at_call 27; refine (Mod_any _ _ _ (by omega) (by omega)).mono ?_; rw [HKK.out]; rintro e w' ⟨rfl, rfl⟩)
          | (at_builtin; refine wpList_appS (mk := Value.int .i64) _ rfl (.tmp 26) (.tmp 28) _ rfl 3 i0 _ 8 Try.underlying22 hi0 hz0 hz1 hz2 rfl (w.heap.size + 1) A1 c1 xs rfl rs2.own.a (some ⟨wr.heap.size, 0, none⟩) 1 [f] rfl HSF.out (int_one [f]) (by simp; omega) (by simp; omega) (by simp; omega) ?_
             intro A5 c5 w5 ho5 hg5 hl5
             rw [HVS.out] at ho5
             rw [HVS.out]
             have rsC := rs2.act hg5 ho5 hl5
             have b5 : Below (w.heap.size + 1) (wr.alloc (.cells #[.int .i64 f] 3)) w5 := (Below.refl _ _).grown hg5 (by simp; omega) (fun k hk => by have := (rs2.own.a.block k hk).1; omega)
             have bk := blk_grown rs2.blk hg5 rs2.f1
             have k1 := (bk.cell_ 0).trans (by simp : _ = some (.slice A1 xs.length c1))
             have k2 := bk.frozen_ 0
             have k3 := (bk.cell_ 2).trans (by simp : _ = some (.slice A3 rs.length c3))
             obtain ⟨g3, hA3, hcb, hfb, hbg, rsF⟩ := rsC.bit (f := f.toNat) (by omega) false
             have nRg : ¬ w.heap.size + 2 = g3 := by rintro rfl; exact rsC.f3 (by rw [hA3]; rfl)
             have nRg' : ¬ g3 = w.heap.size + 2 := fun e => nRg e.symm
             have hcb' : w5.cell? ⟨g3, f.toNat, none⟩ = some (.bool (rs.getD f.toNat false)) := by rw [← hcb, World.cell?_setCell_other _ _ _ _ (by simp [nRg'])]
             have hfb' : w5.frozen? ⟨g3, f.toNat, none⟩ = false := by simpa using hfb
             subst hA3
             have RSF := Lib.hid rsF
             clear rs2 rsC ho5 hg5 hl5 bk k0 hcb hfb rsF rs1))
        go_roundw
        case rel => exact ⟨k + 1, by omega, by go_num, A5, c5, A2, c2, _, c3, vs, ys, _, RSF.out, (by rw [← HVS.out, ← HF.out]; exact HMd.out.step hk' false (.inr (perm_act _ _ _))), ((hbR.alloc (by omega) _).trans b5 |>.setCell (by show _ ≤ w.heap.size + 2; omega) _).setCell (by show _ ≤ g3; omega) _⟩
        case measure => simp [intOf]; omega
      · have k0 := (rs1.blk.cell_ 0).trans (by simp : _ = some (.slice A1 xs.length c1))
        have rs2 := rs1.ext ((Below.refl _ _).alloc (Nat.le_refl _) (.cells #[.int .i64 f] 3))
        have hsf : Sl (wr.alloc (.cells #[.int .i64 f] 3)) (Value.int .i64) (some ⟨wr.heap.size, 0, none⟩) [f] := Sl.of_lit (t := 3) (Blk.new_ rfl rfl)
        obtain ⟨vs, hvs⟩ : ∃ vs, xs ++ [f] = vs := ⟨_, rfl⟩
        have HSF := Lib.hid hsf; have HVS := Lib.hid hvs
        clear hsf hvs
        go_wp2_with (first
          | (go_at_call 54; refine (At_any _ _ _ _ _ (HN.out.ext hbW) hln).mono ?_; rintro e w' ⟨rfl, rfl⟩)
          | (go_at_call 27; refine (Mod_any _ _ _ (by omega) (by omega)).mono ?_; rw [HKK.out]; rintro e w' ⟨rfl, rfl⟩)
          | (at_builtin; refine wpList_appS (mk := Value.int .i64) _ rfl (.tmp 26) (.tmp 28) _ rfl 3 i0 _ 8 Try.underlying22 hi0 hz0 hz1 hz2 rfl (w.heap.size + 1) A1 c1 xs rfl rs2.own.a (some ⟨wr.heap.size, 0, none⟩) 1 [f] rfl HSF.out (int_one [f]) (by simp; omega) (by simp; omega) (by simp; omega) ?_
             intro A5 c5 w5 ho5 hg5 hl5
             rw [HVS.out] at ho5
             rw [HVS.out]
             have rsC := rs2.act hg5 ho5 hl5
             have b5 : Below (w.heap.size + 1) (wr.alloc (.cells #[.int .i64 f] 3)) w5 := (Below.refl _ _).grown hg5 (by simp; omega) (fun k hk => by have := (rs2.own.a.block k hk).1; omega)
             have bk := blk_grown rs2.blk hg5 rs2.f1
             have k1 := (bk.cell_ 0).trans (by simp : _ = some (.slice A1 xs.length c1))
             have k2 := bk.frozen_ 0
             have k3 := (bk.cell_ 2).trans (by simp : _ = some (.slice A3 rs.length c3))
             obtain ⟨g3, hA3, hcb, hfb, hbg, rsF⟩ := rsC.bit (f := f.toNat) (by omega) true
             have nRg : ¬ w.heap.size + 2 = g3 := by rintro rfl; exact rsC.f3 (by rw [hA3]; rfl)
             have nRg' : ¬ g3 = w.heap.size + 2 := fun e => nRg e.symm
             have hcb' : w5.cell? ⟨g3, f.toNat, none⟩ = some (.bool (rs.getD f.toNat false)) := by rw [← hcb, World.cell?_setCell_other _ _ _ _ (by simp [nRg'])]
             have hfb' : w5.frozen? ⟨g3, f.toNat, none⟩ = false := by simpa using hfb
             subst hA3
             have RSF := Lib.hid rsF
             clear rs2 rsC ho5 hg5 hl5 bk k0 hcb hfb rsF rs1))
        go_roundw
        case rel => exact ⟨k + 1, by omega, by go_num, A5, c5, A2, c2, _, c3, vs, ys, _, RSF.out, (by rw [← HVS.out, ← HF.out]; exact HMd.out.step hk' true (.inr (perm_act _ _ _))), ((hbR.alloc (by omega) _).trans b5 |>.setCell (by show _ ≤ w.heap.size + 2; omega) _).setCell (by show _ ≤ g3; omega) _⟩
        case measure => simp [intOf]; omega
      · have k0 := (rs1.blk.cell_ 1).trans (by simp : _ = some (.slice A2 ys.length c2))
        have rs2 := rs1.ext ((Below.refl _ _).alloc (Nat.le_refl _) (.cells #[.int .i64 f] 3))
        have hof : Own (wr.alloc (.cells #[.int .i64 f] 3)) (w.heap.size + 1) 3 (Value.int .i64) (.slice (some ⟨wr.heap.size, 0, none⟩) [f].length 1) [f] :=
          Own.of_blk (cur := #[.int .i64 f]) (Blk.new_ rfl rfl) (by omega) (by simp) (by simp [maxLen]) (fun j x hx => by cases j <;> simp_all)
        have hsy : Sl (wr.alloc (.cells #[.int .i64 f] 3)) (Value.int .i64) A2 ys := by
          obtain ⟨A', c', e, hs⟩ := rs2.own.i.sl
          injection e with e
          subst e
          exact hs
        obtain ⟨vs, hvs⟩ : ∃ vs, [f] ++ ys = vs := ⟨_, rfl⟩
        have HOF := Lib.hid hof; have HSY := Lib.hid hsy; have HVS := Lib.hid hvs
        clear hof hsy hvs
        go_wp2_with (first
          | (go_at_call 54; refine (At_any _ _ _ _ _ (HN.out.ext hbW) hln).mono ?_; rintro e w' ⟨rfl, rfl⟩)
          | (go_at_call 27; refine (Mod_any _ _ _ (by omega) (by omega)).mono ?_; rw [HKK.out]; rintro e w' ⟨rfl, rfl⟩)
          | (at_builtin; refine wpList_appS (mk := Value.int .i64) _ rfl (.tmp 34) (.tmp 36) _ rfl 3 i0 _ 8 Try.underlying22 hi0 hz0 hz1 hz2 rfl (w.heap.size + 1) (some ⟨wr.heap.size, 0, none⟩) 1 [f] rfl HOF.out A2 c2 ys rfl HSY.out (int_one ys) (by simp; omega) (by simp; omega) (by simp; omega) ?_
             intro A5 c5 w5 ho5 hg5 hl5
             rw [HVS.out] at ho5
             rw [HVS.out]
             have hbl5 : Below wr.heap.size wr w5 := ((Below.refl _ _).alloc (Nat.le_refl _) _).grown hg5 (by simp) (fun k hk => by cases hk; exact Nat.le_refl _)
             have hg6 : wr.grownBy w5 (A2.map (·.block)) := ⟨hbl5.os, hbl5.tape, hbl5.output, hbl5.size, fun k hk _ => hbl5.block k hk⟩
             have hl6 : A5.map (·.block) = A2.map (·.block) ∨ ∃ g, A5.map (·.block) = some g ∧ wr.heap.size ≤ g := by
               rcases hl5 with h | ⟨g, h, hg⟩
               · exact .inr ⟨wr.heap.size, h, Nat.le_refl _⟩
               · exact .inr ⟨g, h, by simp at hg; omega⟩
             have rsC := rs1.inact hg6 ho5 hl6
             have b5 : Below (w.heap.size + 1) wr w5 := hbl5.mono (by omega)
             have bk := rs1.blk.below_ hbl5 rs1.blk.lt
             have k1 := (bk.cell_ 1).trans (by simp : _ = some (.slice A2 ys.length c2))
             have k2 := bk.frozen_ 1
             have k3 := (bk.cell_ 2).trans (by simp : _ = some (.slice A3 rs.length c3))
             obtain ⟨g3, hA3, hcb, hfb, hbg, rsF⟩ := rsC.bit (f := f.toNat) (by omega) false
             have nRg : ¬ w.heap.size + 2 = g3 := by rintro rfl; exact rsC.f3 (by rw [hA3]; rfl)
             have nRg' : ¬ g3 = w.heap.size + 2 := fun e => nRg e.symm
             have hcb' : w5.cell? ⟨g3, f.toNat, none⟩ = some (.bool (rs.getD f.toNat false)) := by rw [← hcb, World.cell?_setCell_other _ _ _ _ (by simp [nRg'])]
             have hfb' : w5.frozen? ⟨g3, f.toNat, none⟩ = false := by simpa using hfb
             subst hA3
             have RSF := Lib.hid rsF
             clear rs2 rsC ho5 hg5 hg6 hl5 hl6 hbl5 bk k0 hcb hfb rsF rs1))
        go_roundw
        case rel => exact ⟨k + 1, by omega, by go_num, A1, c1, A5, c5, _, c3, xs, vs, _, RSF.out, (by rw [← HVS.out, ← HF.out]; exact HMd.out.step hk' false (.inr List.perm_middle)), ((hbR.trans b5).setCell (by show _ ≤ w.heap.size + 2; omega) _).setCell (by show _ ≤ g3; omega) _⟩
        case measure => simp [intOf]; omega
      · have k0 := (rs1.blk.cell_ 1).trans (by simp : _ = some (.slice A2 ys.length c2))
        have rs2 := rs1.ext ((Below.refl _ _).alloc (Nat.le_refl _) (.cells #[.int .i64 f] 3))
        have hof : Own (wr.alloc (.cells #[.int .i64 f] 3)) (w.heap.size + 1) 3 (Value.int .i64) (.slice (some ⟨wr.heap.size, 0, none⟩) [f].length 1) [f] :=
          Own.of_blk (cur := #[.int .i64 f]) (Blk.new_ rfl rfl) (by omega) (by simp) (by simp [maxLen]) (fun j x hx => by cases j <;> simp_all)
        have hsy : Sl (wr.alloc (.cells #[.int .i64 f] 3)) (Value.int .i64) A2 ys := by
          obtain ⟨A', c', e, hs⟩ := rs2.own.i.sl
          injection e with e
          subst e
          exact hs
        obtain ⟨vs, hvs⟩ : ∃ vs, [f] ++ ys = vs := ⟨_, rfl⟩
        have HOF := Lib.hid hof; have HSY := Lib.hid hsy; have HVS := Lib.hid hvs
        clear hof hsy hvs
        go_wp2_with (first
          | (go_at_call 54; refine (At_any _ _ _ _ _ (HN.out.ext hbW) hln).mono ?_; rintro e w' ⟨rfl, rfl⟩)
          | (go_at_call 27; refine (Mod_any _ _ _ (by omega) (by omega)).mono ?_; rw [HKK.out]; rintro e w' ⟨rfl, rfl⟩)
          | (at_builtin; refine wpList_appS (mk := Value.int .i64) _ rfl (.tmp 34) (.tmp 36) _ rfl 3 i0 _ 8 Try.underlying22 hi0 hz0 hz1 hz2 rfl (w.heap.size + 1) (some ⟨wr.heap.size, 0, none⟩) 1 [f] rfl HOF.out A2 c2 ys rfl HSY.out (int_one ys) (by simp; omega) (by simp; omega) (by simp; omega) ?_
             intro A5 c5 w5 ho5 hg5 hl5
             rw [HVS.out] at ho5
             rw [HVS.out]
             have hbl5 : Below wr.heap.size wr w5 := ((Below.refl _ _).alloc (Nat.le_refl _) _).grown hg5 (by simp) (fun k hk => by cases hk; exact Nat.le_refl _)
             have hg6 : wr.grownBy w5 (A2.map (·.block)) := ⟨hbl5.os, hbl5.tape, hbl5.output, hbl5.size, fun k hk _ => hbl5.block k hk⟩
             have hl6 : A5.map (·.block) = A2.map (·.block) ∨ ∃ g, A5.map (·.block) = some g ∧ wr.heap.size ≤ g := by
               rcases hl5 with h | ⟨g, h, hg⟩
               · exact .inr ⟨wr.heap.size, h, Nat.le_refl _⟩
               · exact .inr ⟨g, h, by simp at hg; omega⟩
             have rsC := rs1.inact hg6 ho5 hl6
             have b5 : Below (w.heap.size + 1) wr w5 := hbl5.mono (by omega)
             have bk := rs1.blk.below_ hbl5 rs1.blk.lt
             have k1 := (bk.cell_ 1).trans (by simp : _ = some (.slice A2 ys.length c2))
             have k2 := bk.frozen_ 1
             have k3 := (bk.cell_ 2).trans (by simp : _ = some (.slice A3 rs.length c3))
             obtain ⟨g3, hA3, hcb, hfb, hbg, rsF⟩ := rsC.bit (f := f.toNat) (by omega) true
             have nRg : ¬ w.heap.size + 2 = g3 := by rintro rfl; exact rsC.f3 (by rw [hA3]; rfl)
             have nRg' : ¬ g3 = w.heap.size + 2 := fun e => nRg e.symm
             have hcb' : w5.cell? ⟨g3, f.toNat, none⟩ = some (.bool (rs.getD f.toNat false)) := by rw [← hcb, World.cell?_setCell_other _ _ _ _ (by simp [nRg'])]
             have hfb' : w5.frozen? ⟨g3, f.toNat, none⟩ = false := by simpa using hfb
             subst hA3
             have RSF := Lib.hid rsF
             clear rs2 rsC ho5 hg5 hg6 hl5 hl6 hbl5 bk k0 hcb hfb rsF rs1))
        go_roundw
        case rel => exact ⟨k + 1, by omega, by go_num, A1, c1, A5, c5, _, c3, xs, vs, _, RSF.out, (by rw [← HVS.out, ← HF.out]; exact HMd.out.step hk' true (.inr List.perm_middle)), ((hbR.trans b5).setCell (by show _ ≤ w.heap.size + 2; omega) _).setCell (by show _ ≤ g3; omega) _⟩
        case measure => simp [intOf]; omega
    · obtain rfl : k = 16 := by omega
      have r0 := (rs1.blk.cell_ 0).trans (by simp : _ = some (.slice A1 xs.length c1))
      have r1 := (rs1.blk.cell_ 1).trans (by simp : _ = some (.slice A2 ys.length c2))
      have r2 := (rs1.blk.cell_ 2).trans (by simp : _ = some (.slice A3 rs.length c3))
      have q0 : wr.cell? ⟨w.heap.size, 0, none⟩ = some (.slice none 0 0) := cell_keep hbR (by simp) (by simp)
      have q1 : wr.cell? ⟨w.heap.size, 1, none⟩ = some (.slice none 0 0) := cell_keep hbR (by simp) (by simp)
      have q2 : wr.cell? ⟨w.heap.size, 2, none⟩ = some (.slice none 0 0) := cell_keep hbR (by simp) (by simp)
      have q3 : wr.frozen? ⟨w.heap.size, 0, none⟩ = false := frozen_keep hbR (by simp) (by simp)
      have q4 : wr.frozen? ⟨w.heap.size, 1, none⟩ = false := frozen_keep hbR (by simp) (by simp)
      have q5 : wr.frozen? ⟨w.heap.size, 2, none⟩ = false := frozen_keep hbR (by simp) (by simp)
      have o := rs1.own
      have HO := Lib.hid o
      have HMd := Lib.hid hmd
      clear o rs1 hmd
      go_wp2
      refine bodyPost_ret (v := .agg #[.slice A1 xs.length c1, .slice A2 ys.length c2, .slice A3 rs.length c3]) (by simp [results, Try.results26, go_sem, q0, q1, q2]) rfl ?_
      refine ⟨A1, c1, A2, c2, A3, c3, xs, ys, rs, rfl, ?_, HMd.out, (by repeat' (first | with_reducible exact Below.refl _ _ | with_reducible assumption | with_reducible apply Below.drew | with_reducible apply below_drewN | with_reducible apply Below.alloc | with_reducible apply Below.setCell | (with_reducible refine Below.trans ?_ (Below.mono (by assumption) ?_)) | (simp; done) | (simp; omega) | omega | with_reducible apply le_size_alloc | with_reducible apply le_size_drewN | with_reducible apply le_size_drew | with_reducible apply le_size_setCell | refine Nat.le_trans ?_ (Below.size (by assumption))))⟩
      exact (((HO.out.far_ _ _ (by omega)).far_ _ _ (by omega)).far_ _ _ (by omega)).base_ (by omega)
end Go.Proofs.Ytjilfijpepbfeaa
