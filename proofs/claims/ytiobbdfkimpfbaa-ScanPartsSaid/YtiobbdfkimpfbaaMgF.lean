/- Law 30's own 'made': valid lists of a machine of 20 frames. -/
/- The steps of a sweep in plain Lean: which come, and that they come to an end. -/
/- Law 30's own 'without'; what a background step does to lists. -/
import Derived.Test.YtiobbdfkimpfbaaLruM
import Derived.Test.YtiobbdfkimpfbaaKit
import Derived.Test.YtiobbdfkimpfbaaMgB
namespace Go.Proofs.Ytiobbdfkimpfbaa
set_option linter.unusedSimpArgs false
set_option linter.unusedVariables false
open Go.RowKit Go.Maps

/-- What holds of the lists and the frames used. -/
structure Mz (xs ys : List Int) (rs us : List Bool) : Prop where
  len : rs.length = 20
  ulen : us.length = 20
  nodup : (xs ++ ys).Nodup
  range : ∀ x ∈ xs ++ ys, 0 ≤ x ∧ x < 20
  refs : ∀ m : Nat, rs[m]? = some true → (m : Int) ∈ xs ++ ys
  used : ∀ m : Nat, (m : Int) ∈ xs ++ ys → us[m]? = some true
theorem Mz.size {xs ys : List Int} {rs us : List Bool} (h : Mz xs ys rs us) : xs.length + ys.length ≤ 20 := by
  have := nodup_len 20 _ h.nodup h.range
  simpa using this
theorem Mz.chk {xs ys : List Int} {rs us : List Bool} (h : Mz xs ys rs us) : lruChk xs ys rs = 0 :=
  lruChk_ok (by rw [h.len]; omega) (lruScan_none _ _ _ (fun x hx => by rw [h.len]; exact h.range x hx) h.nodup (fun _ _ => by simp)) h.refs
theorem Mz.start : Mz [] [] (List.replicate 20 false) (List.replicate 20 false) := ⟨by simp, by simp, by simp, by simp, fun m hm => by
  rw [List.getElem?_replicate] at hm
  split at hm <;> simp at hm, by simp⟩
theorem Mz.step {xs ys xs' ys' : List Int} {rs us : List Bool} (h : Mz xs ys rs us) {G : Nat} (hG : G < 20) (hu : us[G]? = some false) (b : Bool) (hp : (xs' ++ ys').Perm ((G : Int) :: (xs ++ ys))) : Mz xs' ys' (rs.set G b) (us.set G true) := by
  have hf : (G : Int) ∉ xs ++ ys := fun hm => by have := h.used G hm; rw [hu] at this; cases this
  refine ⟨by simpa using h.len, by simpa using h.ulen, hp.nodup_iff.2 (List.nodup_cons.2 ⟨hf, h.nodup⟩), ?_, ?_, ?_⟩
  · intro x hx
    rcases List.mem_cons.1 (hp.mem_iff.1 hx) with e | hx
    · omega
    · exact h.range x hx
  · intro m hm
    rw [List.getElem?_set] at hm
    by_cases e : G = m
    · exact hp.mem_iff.2 (List.mem_cons.2 (.inl (by omega)))
    · rw [if_neg e] at hm
      exact hp.mem_iff.2 (List.mem_cons.2 (.inr (h.refs m hm)))
  · intro m hm
    rw [List.getElem?_set]
    by_cases e : G = m
    · rw [if_pos e, if_pos (by rw [h.ulen]; exact hG)]
    · rw [if_neg e]
      rcases List.mem_cons.1 (hp.mem_iff.1 hm) with e' | hm
      · exact absurd (by omega) e
      · exact h.used m hm

/-- A variable of lists, and the frames used. -/
structure US (W : World) (base R U : Nat) (A1 : Option Addr) (c1 : Nat) (A2 : Option Addr) (c2 : Nat) (A3 : Option Addr) (c3 : Nat) (xs ys : List Int) (rs us : List Bool) : Prop where
  rs : RS W base R A1 c1 A2 c2 A3 c3 xs ys rs
  ub : Blk W U 53 (us.map Value.bool).toArray
  n1 : A1.map (·.block) ≠ some U
  n2 : A2.map (·.block) ≠ some U
  n3 : A3.map (·.block) ≠ some U
  ne : R ≠ U
section
variable {W w1 : World} {base R U : Nat} {A1 A2 A3 : Option Addr} {c1 c2 c3 : Nat} {xs ys : List Int} {rs us : List Bool}
theorem US.ext (h : US W base R U A1 c1 A2 c2 A3 c3 xs ys rs us) (hb : Below W.heap.size W w1) : US w1 base R U A1 c1 A2 c2 A3 c3 xs ys rs us :=
  ⟨h.rs.ext hb, h.ub.below_ hb h.ub.lt, h.n1, h.n2, h.n3, h.ne⟩
theorem US.use (h : US W base R U A1 c1 A2 c2 A3 c3 xs ys rs us) (f : Nat) : US (W.setCell ⟨U, f, none⟩ (.bool true)) base R U A1 c1 A2 c2 A3 c3 xs ys rs (us.set f true) := by
  refine ⟨⟨h.rs.blk.far_ (by exact h.ne) _, ⟨h.rs.own.a.far_ _ _ h.n1, h.rs.own.i.far_ _ _ h.n2, h.rs.own.r.far_ _ _ h.n3, h.rs.own.ai, h.rs.own.ar, h.rs.own.ir⟩, h.rs.f1, h.rs.f2, h.rs.f3⟩, ?_, h.n1, h.n2, h.n3, h.ne⟩
  have := h.ub.set_ f (.bool true)
  rw [List.map_set]
  simpa using this
theorem US.bit (h : US W base R U A1 c1 A2 c2 A3 c3 xs ys rs us) {f : Nat} (hf : f < rs.length) (b : Bool) : ∃ g, A3 = some ⟨g, 0, none⟩ ∧ (W.cell? ⟨g, f, none⟩ = some (.bool (rs.getD f false))) ∧ W.frozen? ⟨g, f, none⟩ = false ∧ base ≤ g ∧ R ≠ g ∧ U ≠ g ∧
    US (W.setCell ⟨g, f, none⟩ (.bool b)) base R U A1 c1 A2 c2 A3 c3 xs ys (rs.set f b) us := by
  obtain ⟨g, rfl, hc, hz, hb, h'⟩ := h.rs.bit hf b
  have hg : U ≠ g := by rintro rfl; exact h.n3 rfl
  exact ⟨g, rfl, hc, hz, hb, by rintro rfl; exact h.rs.f3 rfl, hg, h', h.ub.far_ hg _, h.n1, h.n2, h.n3, h.ne⟩
theorem US.act (h : US W base R U A1 c1 A2 c2 A3 c3 xs ys rs us) {A : Option Addr} {c : Nat} {zs : List Int} (hg : W.grownBy w1 (A1.map (·.block))) (ho : Own w1 base 3 (.int .i64) (.slice A zs.length c) zs)
    (hl : A.map (·.block) = A1.map (·.block) ∨ ∃ g, A.map (·.block) = some g ∧ W.heap.size ≤ g) : US (w1.setCell ⟨R, 0, none⟩ (.slice A zs.length c)) base R U A c A2 c2 A3 c3 zs ys rs us := by
  refine ⟨h.rs.act hg ho hl, (blk_grown h.ub hg h.n1).far_ (Ne.symm h.ne) _, ?_, h.n2, h.n3, h.ne⟩
  rcases hl with e | ⟨g, e, hge⟩
  · rw [e]; exact h.n1
  · rw [e]; intro e'; injection e' with e'; have := h.ub.lt; omega
theorem US.inact (h : US W base R U A1 c1 A2 c2 A3 c3 xs ys rs us) {A : Option Addr} {c : Nat} {zs : List Int} (hg : W.grownBy w1 (A2.map (·.block))) (ho : Own w1 base 3 (.int .i64) (.slice A zs.length c) zs)
    (hl : A.map (·.block) = A2.map (·.block) ∨ ∃ g, A.map (·.block) = some g ∧ W.heap.size ≤ g) : US (w1.setCell ⟨R, 1, none⟩ (.slice A zs.length c)) base R U A1 c1 A c A3 c3 xs zs rs us := by
  refine ⟨h.rs.inact hg ho hl, (blk_grown h.ub hg h.n2).far_ (Ne.symm h.ne) _, h.n1, ?_, h.n3, h.ne⟩
  rcases hl with e | ⟨g, e, hge⟩
  · rw [e]; exact h.n2
  · rw [e]; intro e'; injection e' with e'; have := h.ub.lt; omega
end
theorem perm_inact (xs ys : List Int) (f : Int) : (xs ++ (ys ++ [f])).Perm (f :: (xs ++ ys)) := by rw [← List.append_assoc]; exact List.perm_append_singleton _ _
theorem mk20 (w : World) : (Instr.makeSlice 23 (.int .i64 20) (.int .i64 20)).run Try.prog w = .ok (.slice (some ⟨w.heap.size, 0, none⟩) 20 20) (w.alloc (.cells #[.bool false, .bool false, .bool false, .bool false, .bool false, .bool false, .bool false, .bool false, .bool false, .bool false, .bool false, .bool false, .bool false, .bool false, .bool false, .bool false, .bool false, .bool false, .bool false, .bool false] 4)) := by kernel_rfl

def MadeZ (w : World) (e : Ending) (w' : World) : Prop :=
  ∃ A1 c1 A2 c2 A3 c3 xs ys rs us, e = .returned (.agg #[.slice A1 xs.length c1, .slice A2 ys.length c2, .slice A3 rs.length c3]) ∧ OwnL w' w.heap.size A1 c1 A2 c2 A3 c3 xs ys rs ∧ Mz xs ys rs us ∧ Below w.heap.size w w'

set_option maxRecDepth 100000 in
set_option maxHeartbeats 8000000 in
theorem madeZ_any (A : Option Addr) (c : Nat) (nums : List Int) (w : World) (hn : Sl w (.int .i64) A nums) (hln : nums.length ≤ 9223372036854775807) :
    Calls Try.prog 30 #[.slice A nums.length c] w (MadeZ w) := by
  obtain ⟨i0, hi0, hz0, hz1, hz2⟩ := info_parts intInfo
  have HN := Lib.hid hn
  clear hn
  have hmk := mk20
  go_enter Try.func30, Try.ntmps30
  go_wp2_with fail
  clear hmk
  go_loopw [5] (fun i wr => ∃ k : Nat, k ≤ nums.length ∧ k ≤ 40 ∧ i = .int .i64 k ∧ ∃ A1 c1 A2 c2 A3 c3 xs ys rs us, US wr (w.heap.size + 1) (w.heap.size + 2) (w.heap.size + 3) A1 c1 A2 c2 A3 c3 xs ys rs us ∧ Mz xs ys rs us ∧
      Below (w.heap.size + 1) (w.alloc (.cells #[.slice none 0 0, .slice none 0 0, .slice none 0 0] 25)) wr) (fun i _ => nums.length - (intOf i).toNat)
  case atStart =>
    refine ⟨0, by omega, by omega, rfl, none, 0, none, 0, some ⟨w.heap.size + 1, 0, none⟩, 20, [], [], List.replicate 20 false, List.replicate 20 false, ⟨⟨?_, ⟨World.ownsRow_nil _ _ _ _, World.ownsRow_nil _ _ _ _, ?_, by simp, by simp, by simp⟩, by simp, by simp, by simp⟩, ?_, by simp, by simp, by simp, by omega⟩, Mz.start, ?_⟩
    · have h0 : Blk (((w.alloc (.cells #[.slice none 0 0, .slice none 0 0, .slice none 0 0] 25)).alloc (.cells #[.bool false, .bool false, .bool false, .bool false, .bool false, .bool false, .bool false, .bool false, .bool false, .bool false, .bool false, .bool false, .bool false, .bool false, .bool false, .bool false, .bool false, .bool false, .bool false, .bool false] 4)).alloc (.cells #[.slice none 0 0, .slice none 0 0, .slice (some ⟨w.heap.size + 1, 0, none⟩) 20 20] 25)) (w.heap.size + 2) 25 #[.slice none 0 0, .slice none 0 0, .slice (some ⟨w.heap.size + 1, 0, none⟩) 20 20] := Blk.new_ (by simp) rfl
      exact h0.alloc_ _
    · exact Own.of_blk (cur := #[.bool false, .bool false, .bool false, .bool false, .bool false, .bool false, .bool false, .bool false, .bool false, .bool false, .bool false, .bool false, .bool false, .bool false, .bool false, .bool false, .bool false, .bool false, .bool false, .bool false]) (xs := List.replicate 20 false) (by repeat' (first | with_reducible assumption | (with_reducible refine Blk.new_ ?_ ?_ <;> first | (simp; done) | rfl) | with_reducible apply Blk.drew_ | with_reducible apply Blk.drewN_ | with_reducible apply Blk.alloc_ | with_reducible refine Blk.far_ ?_ ?_ _ | (with_reducible refine Blk.below_ ?_ (by assumption) ?_) | (simp; done) | (simp; omega) | omega | with_reducible apply le_size_alloc | with_reducible apply lt_size_alloc | with_reducible apply le_size_drewN | with_reducible apply le_size_drew | with_reducible apply le_size_setCell | refine Nat.lt_of_lt_of_le ?_ (Below.size (by assumption)) | refine Nat.le_trans ?_ (Below.size (by assumption)))) (by omega) (by simp) (by decide) (fun j x hx => by
        rw [List.getElem?_replicate] at hx
        split at hx
        · rename_i hj
          injection hx with hx
          subst hx
          rcases (by omega : j = 0 ∨ j = 1 ∨ j = 2 ∨ j = 3 ∨ j = 4 ∨ j = 5 ∨ j = 6 ∨ j = 7 ∨ j = 8 ∨ j = 9 ∨ j = 10 ∨ j = 11 ∨ j = 12 ∨ j = 13 ∨ j = 14 ∨ j = 15 ∨ j = 16 ∨ j = 17 ∨ j = 18 ∨ j = 19) with h | h | h | h | h | h | h | h | h | h | h | h | h | h | h | h | h | h | h | h <;> subst h <;> rfl
        · cases hx)
    · exact Blk.new_ (by simp) rfl
    · exact (by repeat' (first | with_reducible exact Below.refl _ _ | with_reducible assumption | with_reducible apply Below.drew | with_reducible apply below_drewN | with_reducible apply Below.alloc | with_reducible apply Below.setCell | (with_reducible refine Below.trans ?_ (Below.mono (by assumption) ?_)) | (simp; done) | (simp; omega) | omega | with_reducible apply le_size_alloc | with_reducible apply le_size_drewN | with_reducible apply le_size_drew | with_reducible apply le_size_setCell | refine Nat.le_trans ?_ (Below.size (by assumption))))
  case round =>
    obtain ⟨k, hk, hk40, rfl, A1, c1, A2, c2, A3, c3, xs, ys, rs, us, us1, hmz, hbR⟩ := hrel
    have hbW : Below w.heap.size w wr := ((Below.refl _ _).alloc (Nat.le_refl _) _).trans (hbR.mono (by omega))
    have hsz : w.heap.size + 3 < wr.heap.size := us1.ub.lt
    by_cases hk' : k < nums.length
    · by_cases hk4 : k < 40
      · obtain ⟨b, off, x, rfl, hb, hx, hc⟩ := (HN.out.ext hbW).at_ hk'
        obtain ⟨kk, hkk⟩ : ∃ kk, x % 1048576 = kk := ⟨_, rfl⟩
        have kk0 : 0 ≤ kk := by omega
        have kk1 : kk < 1048576 := by omega
        obtain ⟨G, hG⟩ : ∃ G : Nat, kk % 20 = G := ⟨(kk % 20).toNat, by omega⟩
        have hG20 : G < 20 := by omega
        have hGi : (G : Int) < 20 := by omega
        have HKK := Lib.hid hkk
        have hlen := hmz.len
        have hulen := hmz.ulen
        have hsm := hmz.size
        have HMz := Lib.hid hmz
        have i1 : (k : Int) < nums.length := by omega
        have i2 : (k : Int) < 40 := by omega
        have hbw : b < wr.heap.size := hb
        have hGu : G < us.length := by omega
        clear hmz hx hkk
        cases hu : us[G]? with
        | none => exact absurd (List.getElem?_eq_none_iff.1 hu) (by omega)
        | some u =>
        have m0 : wr.cell? ⟨w.heap.size + 3, G, none⟩ = some (.bool u) := (us1.ub.cell_ G).trans (by simp [hu])
        have m1 := us1.ub.frozen_ G
        have hwg : IntKind.i64.wrap (G : Int) = G := by rw [IntKind.wrap_i64]; omega
        cases u with
        | true =>
          clear m1
          go_wp2_with (go_at_call 31; refine (Mod_any _ _ _ (by omega) (by omega)).mono ?_; rw [HKK.out]; rintro e w' ⟨rfl, rfl⟩)
          go_roundw
          case rel => exact ⟨k + 1, by omega, by omega, by go_num, A1, c1, A2, c2, A3, c3, xs, ys, rs, us, us1, HMz.out, hbR⟩
          case measure => simp [intOf]; omega
        | false =>
          rcases (by omega : kk / 20 % 2 = 0 ∨ kk / 20 % 2 = 1) with m2 | m2 <;> rcases (by omega : kk / 40 % 2 = 0 ∨ kk / 40 % 2 = 1) with m3 | m3
          · have us2 := us1.use G
            obtain ⟨g3, hA3, hcb, hfb, hbg, nRg, nUg, us3⟩ := us2.bit (f := G) (by omega) false
            subst hA3
            have k2 := (us1.rs.blk.cell_ 2).trans (by simp : _ = some (.slice (some ⟨g3, 0, none⟩) rs.length c3))
            have k0 := (us1.rs.blk.cell_ 0).trans (by simp : _ = some (.slice A1 xs.length c1))
            have nRg' : ¬ g3 = w.heap.size + 2 := fun e => nRg e.symm
            have nUg' : ¬ g3 = w.heap.size + 3 := fun e => nUg e.symm
            have hcb' : wr.cell? ⟨g3, G, none⟩ = some (.bool (rs.getD G false)) := by rw [← hcb, World.cell?_setCell_other _ _ _ _ (by simp [nUg'])]
            have hfb' : wr.frozen? ⟨g3, G, none⟩ = false := by simpa using hfb
            have hlr : (G : Int) < rs.length := by omega
            obtain ⟨W3, hW3⟩ : ∃ W, (wr.setCell ⟨w.heap.size + 3, G, none⟩ (.bool true)).setCell ⟨g3, G, none⟩ (.bool false) = W := ⟨_, rfl⟩
            have HUS : Hid (US (W3.alloc (.cells #[.int .i64 G] 3)) (w.heap.size + 1) (w.heap.size + 2) (w.heap.size + 3) A1 c1 A2 c2 (some ⟨g3, 0, none⟩) c3 xs ys (rs.set G false) (us.set G true)) := by
              show US _ _ _ _ _ _ _ _ _ _ _ _ _ _; rw [← hW3]; exact us3.ext ((Below.refl _ _).alloc (Nat.le_refl _) _)
            have HB3 : Hid (Below (w.heap.size + 1) (w.alloc (.cells #[.slice none 0 0, .slice none 0 0, .slice none 0 0] 25)) W3) := by show Below _ _ _; rw [← hW3]; exact (hbR.setCell (p := ⟨w.heap.size + 3, G, none⟩) (by show _ ≤ w.heap.size + 3; omega) _).setCell (p := ⟨g3, G, none⟩) (by show _ ≤ g3; omega) _
            have sz3 : W3.heap.size = wr.heap.size := by rw [← hW3]; simp [World.setCell]
            have hk0 : W3.cell? ⟨w.heap.size + 2, 0, none⟩ = some (.slice A1 xs.length c1) := by rw [← hW3]; exact (us3.rs.blk.cell_ 0).trans (by simp)
            have hsf : Sl (W3.alloc (.cells #[.int .i64 G] 3)) (Value.int .i64) (some ⟨wr.heap.size, 0, none⟩) [(G : Int)] := by rw [← sz3]; exact Sl.of_lit (t := 3) (Blk.new_ rfl rfl)
            obtain ⟨vs, hvs⟩ : ∃ vs, xs ++ [(G : Int)] = vs := ⟨_, rfl⟩
            have HSF := Lib.hid hsf; have HVS := Lib.hid hvs; have HW3 := Lib.hid hW3
            clear hsf hvs us1 us2 us3 hcb hfb hW3
            go_wp2_with (first
              | (go_at_call 31; refine (Mod_any _ _ _ (by omega) (by omega)).mono ?_; rw [HKK.out]; rintro e w' ⟨rfl, rfl⟩)
              | (rw [HW3.out])
              | (at_builtin; refine wpList_appS (mk := Value.int .i64) _ rfl (.tmp 45) (.tmp 47) _ rfl 3 i0 _ 8 Try.underlying22 hi0 hz0 hz1 hz2 rfl (w.heap.size + 1) A1 c1 xs rfl HUS.out.rs.own.a (some ⟨wr.heap.size, 0, none⟩) 1 [(G : Int)] rfl HSF.out (int_one [(G : Int)]) (by simp; omega) (by simp; omega) (by simp; omega) ?_
                 intro A5 c5 w5 ho5 hg5 hl5
                 rw [HVS.out] at ho5
                 rw [HVS.out]
                 have usF := HUS.out.act hg5 ho5 hl5
                 have b5 : Below (w.heap.size + 1) (W3.alloc (.cells #[.int .i64 G] 3)) w5 := (Below.refl _ _).grown hg5 (by simp; omega) (fun k hk => by have := (HUS.out.rs.own.a.block k hk).1; omega)
                 have bk := blk_grown HUS.out.rs.blk hg5 HUS.out.rs.f1
                 have k1 := (bk.cell_ 0).trans (by simp : _ = some (.slice A1 xs.length c1))
                 have k2 := bk.frozen_ 0
                 have USF := Lib.hid usF
                 clear ho5 hg5 hl5 bk k0 usF))
            go_roundw
            case rel => exact ⟨k + 1, by omega, by omega, by go_num, A5, c5, A2, c2, _, c3, vs, ys, _, _, USF.out, (by rw [← HVS.out]; exact HMz.out.step hG20 hu false (perm_act _ _ _)), ((HB3.out.alloc (by omega) _).trans b5).setCell (by show _ ≤ w.heap.size + 2; omega) _⟩
            case measure => simp [intOf]; omega
          · have us2 := us1.use G
            obtain ⟨g3, hA3, hcb, hfb, hbg, nRg, nUg, us3⟩ := us2.bit (f := G) (by omega) false
            subst hA3
            have k2 := (us1.rs.blk.cell_ 2).trans (by simp : _ = some (.slice (some ⟨g3, 0, none⟩) rs.length c3))
            have k0 := (us1.rs.blk.cell_ 1).trans (by simp : _ = some (.slice A2 ys.length c2))
            have nRg' : ¬ g3 = w.heap.size + 2 := fun e => nRg e.symm
            have nUg' : ¬ g3 = w.heap.size + 3 := fun e => nUg e.symm
            have hcb' : wr.cell? ⟨g3, G, none⟩ = some (.bool (rs.getD G false)) := by rw [← hcb, World.cell?_setCell_other _ _ _ _ (by simp [nUg'])]
            have hfb' : wr.frozen? ⟨g3, G, none⟩ = false := by simpa using hfb
            have hlr : (G : Int) < rs.length := by omega
            obtain ⟨W3, hW3⟩ : ∃ W, (wr.setCell ⟨w.heap.size + 3, G, none⟩ (.bool true)).setCell ⟨g3, G, none⟩ (.bool false) = W := ⟨_, rfl⟩
            have HUS : Hid (US (W3.alloc (.cells #[.int .i64 G] 3)) (w.heap.size + 1) (w.heap.size + 2) (w.heap.size + 3) A1 c1 A2 c2 (some ⟨g3, 0, none⟩) c3 xs ys (rs.set G false) (us.set G true)) := by
              show US _ _ _ _ _ _ _ _ _ _ _ _ _ _; rw [← hW3]; exact us3.ext ((Below.refl _ _).alloc (Nat.le_refl _) _)
            have HB3 : Hid (Below (w.heap.size + 1) (w.alloc (.cells #[.slice none 0 0, .slice none 0 0, .slice none 0 0] 25)) W3) := by show Below _ _ _; rw [← hW3]; exact (hbR.setCell (p := ⟨w.heap.size + 3, G, none⟩) (by show _ ≤ w.heap.size + 3; omega) _).setCell (p := ⟨g3, G, none⟩) (by show _ ≤ g3; omega) _
            have sz3 : W3.heap.size = wr.heap.size := by rw [← hW3]; simp [World.setCell]
            have hk0 : W3.cell? ⟨w.heap.size + 2, 1, none⟩ = some (.slice A2 ys.length c2) := by rw [← hW3]; exact (us3.rs.blk.cell_ 1).trans (by simp)
            have hsf : Sl (W3.alloc (.cells #[.int .i64 G] 3)) (Value.int .i64) (some ⟨wr.heap.size, 0, none⟩) [(G : Int)] := by rw [← sz3]; exact Sl.of_lit (t := 3) (Blk.new_ rfl rfl)
            obtain ⟨vs, hvs⟩ : ∃ vs, ys ++ [(G : Int)] = vs := ⟨_, rfl⟩
            have HSF := Lib.hid hsf; have HVS := Lib.hid hvs; have HW3 := Lib.hid hW3
            clear hsf hvs us1 us2 us3 hcb hfb hW3
            go_wp2_with (first
              | (go_at_call 31; refine (Mod_any _ _ _ (by omega) (by omega)).mono ?_; rw [HKK.out]; rintro e w' ⟨rfl, rfl⟩)
              | (rw [HW3.out])
              | (at_builtin; refine wpList_appS (mk := Value.int .i64) _ rfl (.tmp 51) (.tmp 53) _ rfl 3 i0 _ 8 Try.underlying22 hi0 hz0 hz1 hz2 rfl (w.heap.size + 1) A2 c2 ys rfl HUS.out.rs.own.i (some ⟨wr.heap.size, 0, none⟩) 1 [(G : Int)] rfl HSF.out (int_one [(G : Int)]) (by simp; omega) (by simp; omega) (by simp; omega) ?_
                 intro A5 c5 w5 ho5 hg5 hl5
                 rw [HVS.out] at ho5
                 rw [HVS.out]
                 have usF := HUS.out.inact hg5 ho5 hl5
                 have b5 : Below (w.heap.size + 1) (W3.alloc (.cells #[.int .i64 G] 3)) w5 := (Below.refl _ _).grown hg5 (by simp; omega) (fun k hk => by have := (HUS.out.rs.own.i.block k hk).1; omega)
                 have bk := blk_grown HUS.out.rs.blk hg5 HUS.out.rs.f2
                 have k1 := (bk.cell_ 1).trans (by simp : _ = some (.slice A2 ys.length c2))
                 have k2 := bk.frozen_ 1
                 have USF := Lib.hid usF
                 clear ho5 hg5 hl5 bk k0 usF))
            go_roundw
            case rel => exact ⟨k + 1, by omega, by omega, by go_num, A1, c1, A5, c5, _, c3, xs, vs, _, _, USF.out, (by rw [← HVS.out]; exact HMz.out.step hG20 hu false (perm_inact _ _ _)), ((HB3.out.alloc (by omega) _).trans b5).setCell (by show _ ≤ w.heap.size + 2; omega) _⟩
            case measure => simp [intOf]; omega
          · have us2 := us1.use G
            obtain ⟨g3, hA3, hcb, hfb, hbg, nRg, nUg, us3⟩ := us2.bit (f := G) (by omega) true
            subst hA3
            have k2 := (us1.rs.blk.cell_ 2).trans (by simp : _ = some (.slice (some ⟨g3, 0, none⟩) rs.length c3))
            have k0 := (us1.rs.blk.cell_ 0).trans (by simp : _ = some (.slice A1 xs.length c1))
            have nRg' : ¬ g3 = w.heap.size + 2 := fun e => nRg e.symm
            have nUg' : ¬ g3 = w.heap.size + 3 := fun e => nUg e.symm
            have hcb' : wr.cell? ⟨g3, G, none⟩ = some (.bool (rs.getD G false)) := by rw [← hcb, World.cell?_setCell_other _ _ _ _ (by simp [nUg'])]
            have hfb' : wr.frozen? ⟨g3, G, none⟩ = false := by simpa using hfb
            have hlr : (G : Int) < rs.length := by omega
            obtain ⟨W3, hW3⟩ : ∃ W, (wr.setCell ⟨w.heap.size + 3, G, none⟩ (.bool true)).setCell ⟨g3, G, none⟩ (.bool true) = W := ⟨_, rfl⟩
            have HUS : Hid (US (W3.alloc (.cells #[.int .i64 G] 3)) (w.heap.size + 1) (w.heap.size + 2) (w.heap.size + 3) A1 c1 A2 c2 (some ⟨g3, 0, none⟩) c3 xs ys (rs.set G true) (us.set G true)) := by
              show US _ _ _ _ _ _ _ _ _ _ _ _ _ _; rw [← hW3]; exact us3.ext ((Below.refl _ _).alloc (Nat.le_refl _) _)
            have HB3 : Hid (Below (w.heap.size + 1) (w.alloc (.cells #[.slice none 0 0, .slice none 0 0, .slice none 0 0] 25)) W3) := by show Below _ _ _; rw [← hW3]; exact (hbR.setCell (p := ⟨w.heap.size + 3, G, none⟩) (by show _ ≤ w.heap.size + 3; omega) _).setCell (p := ⟨g3, G, none⟩) (by show _ ≤ g3; omega) _
            have sz3 : W3.heap.size = wr.heap.size := by rw [← hW3]; simp [World.setCell]
            have hk0 : W3.cell? ⟨w.heap.size + 2, 0, none⟩ = some (.slice A1 xs.length c1) := by rw [← hW3]; exact (us3.rs.blk.cell_ 0).trans (by simp)
            have hsf : Sl (W3.alloc (.cells #[.int .i64 G] 3)) (Value.int .i64) (some ⟨wr.heap.size, 0, none⟩) [(G : Int)] := by rw [← sz3]; exact Sl.of_lit (t := 3) (Blk.new_ rfl rfl)
            obtain ⟨vs, hvs⟩ : ∃ vs, xs ++ [(G : Int)] = vs := ⟨_, rfl⟩
            have HSF := Lib.hid hsf; have HVS := Lib.hid hvs; have HW3 := Lib.hid hW3
            clear hsf hvs us1 us2 us3 hcb hfb hW3
            go_wp2_with (first
              | (go_at_call 31; refine (Mod_any _ _ _ (by omega) (by omega)).mono ?_; rw [HKK.out]; rintro e w' ⟨rfl, rfl⟩)
              | (rw [HW3.out])
              | (at_builtin; refine wpList_appS (mk := Value.int .i64) _ rfl (.tmp 45) (.tmp 47) _ rfl 3 i0 _ 8 Try.underlying22 hi0 hz0 hz1 hz2 rfl (w.heap.size + 1) A1 c1 xs rfl HUS.out.rs.own.a (some ⟨wr.heap.size, 0, none⟩) 1 [(G : Int)] rfl HSF.out (int_one [(G : Int)]) (by simp; omega) (by simp; omega) (by simp; omega) ?_
                 intro A5 c5 w5 ho5 hg5 hl5
                 rw [HVS.out] at ho5
                 rw [HVS.out]
                 have usF := HUS.out.act hg5 ho5 hl5
                 have b5 : Below (w.heap.size + 1) (W3.alloc (.cells #[.int .i64 G] 3)) w5 := (Below.refl _ _).grown hg5 (by simp; omega) (fun k hk => by have := (HUS.out.rs.own.a.block k hk).1; omega)
                 have bk := blk_grown HUS.out.rs.blk hg5 HUS.out.rs.f1
                 have k1 := (bk.cell_ 0).trans (by simp : _ = some (.slice A1 xs.length c1))
                 have k2 := bk.frozen_ 0
                 have USF := Lib.hid usF
                 clear ho5 hg5 hl5 bk k0 usF))
            go_roundw
            case rel => exact ⟨k + 1, by omega, by omega, by go_num, A5, c5, A2, c2, _, c3, vs, ys, _, _, USF.out, (by rw [← HVS.out]; exact HMz.out.step hG20 hu true (perm_act _ _ _)), ((HB3.out.alloc (by omega) _).trans b5).setCell (by show _ ≤ w.heap.size + 2; omega) _⟩
            case measure => simp [intOf]; omega
          · have us2 := us1.use G
            obtain ⟨g3, hA3, hcb, hfb, hbg, nRg, nUg, us3⟩ := us2.bit (f := G) (by omega) true
            subst hA3
            have k2 := (us1.rs.blk.cell_ 2).trans (by simp : _ = some (.slice (some ⟨g3, 0, none⟩) rs.length c3))
            have k0 := (us1.rs.blk.cell_ 1).trans (by simp : _ = some (.slice A2 ys.length c2))
            have nRg' : ¬ g3 = w.heap.size + 2 := fun e => nRg e.symm
            have nUg' : ¬ g3 = w.heap.size + 3 := fun e => nUg e.symm
            have hcb' : wr.cell? ⟨g3, G, none⟩ = some (.bool (rs.getD G false)) := by rw [← hcb, World.cell?_setCell_other _ _ _ _ (by simp [nUg'])]
            have hfb' : wr.frozen? ⟨g3, G, none⟩ = false := by simpa using hfb
            have hlr : (G : Int) < rs.length := by omega
            obtain ⟨W3, hW3⟩ : ∃ W, (wr.setCell ⟨w.heap.size + 3, G, none⟩ (.bool true)).setCell ⟨g3, G, none⟩ (.bool true) = W := ⟨_, rfl⟩
            have HUS : Hid (US (W3.alloc (.cells #[.int .i64 G] 3)) (w.heap.size + 1) (w.heap.size + 2) (w.heap.size + 3) A1 c1 A2 c2 (some ⟨g3, 0, none⟩) c3 xs ys (rs.set G true) (us.set G true)) := by
              show US _ _ _ _ _ _ _ _ _ _ _ _ _ _; rw [← hW3]; exact us3.ext ((Below.refl _ _).alloc (Nat.le_refl _) _)
            have HB3 : Hid (Below (w.heap.size + 1) (w.alloc (.cells #[.slice none 0 0, .slice none 0 0, .slice none 0 0] 25)) W3) := by show Below _ _ _; rw [← hW3]; exact (hbR.setCell (p := ⟨w.heap.size + 3, G, none⟩) (by show _ ≤ w.heap.size + 3; omega) _).setCell (p := ⟨g3, G, none⟩) (by show _ ≤ g3; omega) _
            have sz3 : W3.heap.size = wr.heap.size := by rw [← hW3]; simp [World.setCell]
            have hk0 : W3.cell? ⟨w.heap.size + 2, 1, none⟩ = some (.slice A2 ys.length c2) := by rw [← hW3]; exact (us3.rs.blk.cell_ 1).trans (by simp)
            have hsf : Sl (W3.alloc (.cells #[.int .i64 G] 3)) (Value.int .i64) (some ⟨wr.heap.size, 0, none⟩) [(G : Int)] := by rw [← sz3]; exact Sl.of_lit (t := 3) (Blk.new_ rfl rfl)
            obtain ⟨vs, hvs⟩ : ∃ vs, ys ++ [(G : Int)] = vs := ⟨_, rfl⟩
            have HSF := Lib.hid hsf; have HVS := Lib.hid hvs; have HW3 := Lib.hid hW3
            clear hsf hvs us1 us2 us3 hcb hfb hW3
            go_wp2_with (first
              | (go_at_call 31; refine (Mod_any _ _ _ (by omega) (by omega)).mono ?_; rw [HKK.out]; rintro e w' ⟨rfl, rfl⟩)
              | (rw [HW3.out])
              | (at_builtin; refine wpList_appS (mk := Value.int .i64) _ rfl (.tmp 51) (.tmp 53) _ rfl 3 i0 _ 8 Try.underlying22 hi0 hz0 hz1 hz2 rfl (w.heap.size + 1) A2 c2 ys rfl HUS.out.rs.own.i (some ⟨wr.heap.size, 0, none⟩) 1 [(G : Int)] rfl HSF.out (int_one [(G : Int)]) (by simp; omega) (by simp; omega) (by simp; omega) ?_
                 intro A5 c5 w5 ho5 hg5 hl5
                 rw [HVS.out] at ho5
                 rw [HVS.out]
                 have usF := HUS.out.inact hg5 ho5 hl5
                 have b5 : Below (w.heap.size + 1) (W3.alloc (.cells #[.int .i64 G] 3)) w5 := (Below.refl _ _).grown hg5 (by simp; omega) (fun k hk => by have := (HUS.out.rs.own.i.block k hk).1; omega)
                 have bk := blk_grown HUS.out.rs.blk hg5 HUS.out.rs.f2
                 have k1 := (bk.cell_ 1).trans (by simp : _ = some (.slice A2 ys.length c2))
                 have k2 := bk.frozen_ 1
                 have USF := Lib.hid usF
                 clear ho5 hg5 hl5 bk k0 usF))
            go_roundw
            case rel => exact ⟨k + 1, by omega, by omega, by go_num, A1, c1, A5, c5, _, c3, xs, vs, _, _, USF.out, (by rw [← HVS.out]; exact HMz.out.step hG20 hu true (perm_inact _ _ _)), ((HB3.out.alloc (by omega) _).trans b5).setCell (by show _ ≤ w.heap.size + 2; omega) _⟩
            case measure => simp [intOf]; omega
      · obtain rfl : k = 40 := by omega
        have i1 : ((40 : Nat) : Int) < nums.length := by omega
        have q0 : wr.cell? ⟨w.heap.size, 0, none⟩ = some (.slice none 0 0) := cell_keep hbR (by simp) (by simp)
        have q1 : wr.cell? ⟨w.heap.size, 1, none⟩ = some (.slice none 0 0) := cell_keep hbR (by simp) (by simp)
        have q2 : wr.cell? ⟨w.heap.size, 2, none⟩ = some (.slice none 0 0) := cell_keep hbR (by simp) (by simp)
        have q3 : wr.frozen? ⟨w.heap.size, 0, none⟩ = false := frozen_keep hbR (by simp) (by simp)
        have q4 : wr.frozen? ⟨w.heap.size, 1, none⟩ = false := frozen_keep hbR (by simp) (by simp)
        have q5 : wr.frozen? ⟨w.heap.size, 2, none⟩ = false := frozen_keep hbR (by simp) (by simp)
        have r0 := (us1.rs.blk.cell_ 0).trans (by simp : _ = some (.slice A1 xs.length c1))
        have r1 := (us1.rs.blk.cell_ 1).trans (by simp : _ = some (.slice A2 ys.length c2))
        have r2 := (us1.rs.blk.cell_ 2).trans (by simp : _ = some (.slice A3 rs.length c3))
        have HO := Lib.hid us1.rs.own
        have HMz := Lib.hid hmz
        clear us1 hmz
        go_wp2_with fail
        refine bodyPost_ret (v := .agg #[.slice A1 xs.length c1, .slice A2 ys.length c2, .slice A3 rs.length c3]) (by simp [results, Try.results30, go_sem, q0, q1, q2]) rfl ?_
        refine ⟨A1, c1, A2, c2, A3, c3, xs, ys, rs, us, rfl, ?_, HMz.out, (by repeat' (first | with_reducible exact Below.refl _ _ | with_reducible assumption | with_reducible apply Below.drew | with_reducible apply below_drewN | with_reducible apply Below.alloc | with_reducible apply Below.setCell | (with_reducible refine Below.trans ?_ (Below.mono (by assumption) ?_)) | (simp; done) | (simp; omega) | omega | with_reducible apply le_size_alloc | with_reducible apply le_size_drewN | with_reducible apply le_size_drew | with_reducible apply le_size_setCell | refine Nat.le_trans ?_ (Below.size (by assumption))))⟩
        exact (((HO.out.far_ _ _ (by omega)).far_ _ _ (by omega)).far_ _ _ (by omega)).base_ (by omega)
    · obtain rfl : k = nums.length := by omega
      have q0 : wr.cell? ⟨w.heap.size, 0, none⟩ = some (.slice none 0 0) := cell_keep hbR (by simp) (by simp)
      have q1 : wr.cell? ⟨w.heap.size, 1, none⟩ = some (.slice none 0 0) := cell_keep hbR (by simp) (by simp)
      have q2 : wr.cell? ⟨w.heap.size, 2, none⟩ = some (.slice none 0 0) := cell_keep hbR (by simp) (by simp)
      have q3 : wr.frozen? ⟨w.heap.size, 0, none⟩ = false := frozen_keep hbR (by simp) (by simp)
      have q4 : wr.frozen? ⟨w.heap.size, 1, none⟩ = false := frozen_keep hbR (by simp) (by simp)
      have q5 : wr.frozen? ⟨w.heap.size, 2, none⟩ = false := frozen_keep hbR (by simp) (by simp)
      have r0 := (us1.rs.blk.cell_ 0).trans (by simp : _ = some (.slice A1 xs.length c1))
      have r1 := (us1.rs.blk.cell_ 1).trans (by simp : _ = some (.slice A2 ys.length c2))
      have r2 := (us1.rs.blk.cell_ 2).trans (by simp : _ = some (.slice A3 rs.length c3))
      have HO := Lib.hid us1.rs.own
      have HMz := Lib.hid hmz
      clear us1 hmz
      go_wp2_with fail
      refine bodyPost_ret (v := .agg #[.slice A1 xs.length c1, .slice A2 ys.length c2, .slice A3 rs.length c3]) (by simp [results, Try.results30, go_sem, q0, q1, q2]) rfl ?_
      refine ⟨A1, c1, A2, c2, A3, c3, xs, ys, rs, us, rfl, ?_, HMz.out, (by repeat' (first | with_reducible exact Below.refl _ _ | with_reducible assumption | with_reducible apply Below.drew | with_reducible apply below_drewN | with_reducible apply Below.alloc | with_reducible apply Below.setCell | (with_reducible refine Below.trans ?_ (Below.mono (by assumption) ?_)) | (simp; done) | (simp; omega) | omega | with_reducible apply le_size_alloc | with_reducible apply le_size_drewN | with_reducible apply le_size_drew | with_reducible apply le_size_setCell | refine Nat.le_trans ?_ (Below.size (by assumption))))⟩
      exact (((HO.out.far_ _ _ (by omega)).far_ _ _ (by omega)).far_ _ _ (by omega)).base_ (by omega)
end Go.Proofs.Ytiobbdfkimpfbaa
namespace Go.Proofs.Ytiobbdfkimpfbaa
set_option linter.unusedSimpArgs false
set_option linter.unusedVariables false
open Go.RowKit Go.Maps

/-- A step of a sweep: what it was, its frame, the lists behind it (without a victim). -/
def nxtS (T : Int) (xs ys : List Int) (rs : List Bool) : Int × Int × List Int × List Int × List Bool :=
  if 0 < xs.length ∧ (ys.length : Int) < T then (1, lastF xs, dX xs ys, dY xs ys, rs.set (lastF xs).toNat false)
  else if ys.length = 0 then (0, -1, xs, ys, rs)
  else if lastB ys rs = true then (2, lastF ys, pX xs ys, pY xs ys, rs.set (lastF ys).toNat false)
  else (3, lastF ys, wo (lastF ys) xs, wo (lastF ys) ys, rs.set (lastF ys).toNat false)
/-- How many steps there are at most. -/
def refC (rs : List Bool) (ys : List Int) : Nat := ys.countP (fun y => rs.getD y.toNat false)
def phi (xs ys : List Int) (rs : List Bool) : Nat := 2 * xs.length + ys.length + 2 * refC rs ys

theorem refC_set {rs : List Bool} {ys : List Int} {f : Int} (h0 : 0 ≤ f) (hy : ∀ y ∈ ys, 0 ≤ y) (hf : f ∉ ys) : refC (rs.set f.toNat false) ys = refC rs ys := by
  unfold refC
  refine List.countP_congr fun y h => ?_
  have : y.toNat ≠ f.toNat := fun e => hf (by have := hy y h; rw [show f = y by omega]; exact h)
  simp only [List.getD_eq_getElem?_getD, List.getElem?_set, if_neg (Ne.symm this)]
theorem refC_cons_set (rs : List Bool) (f : Int) (ys : List Int) : refC (rs.set f.toNat false) (f :: ys) = refC (rs.set f.toNat false) ys := by
  unfold refC
  rw [List.countP_cons]
  simp [List.getD_eq_getElem?_getD, List.getElem?_set]
  split <;> simp
theorem refC_last {ys : List Int} {rs : List Bool} (h : 0 < ys.length) : refC rs ys = refC rs (ys.eraseIdx (ys.length - 1)) + if lastB ys rs = true then 1 else 0 := by
  have e := erase_last h
  conv => lhs; rw [← e]
  unfold refC
  rw [List.countP_append]
  congr 1
  unfold lastB lastF
  simp [List.countP_cons]
theorem lastF_notin {ys : List Int} (hn : ys.Nodup) (h : 0 < ys.length) : lastF ys ∉ ys.eraseIdx (ys.length - 1) := by
  rw [← wo_lastF hn h]
  intro hm
  exact (wo_mem hm).2 rfl
theorem wo_of_notin {f : Int} {xs : List Int} (h : f ∉ xs) : wo f xs = xs := wo_self h

structure NxtOk (R : Int × Int × List Int × List Int × List Bool) (xs ys : List Int) (rs : List Bool) : Prop where
  chk : lruChk R.2.2.1 R.2.2.2.1 R.2.2.2.2 = 0
  low : R.1 ≠ 0 → phi R.2.2.1 R.2.2.2.1 R.2.2.2.2 < phi xs ys rs
  same : R.1 = 0 → R.2.2 = (xs, ys, rs) ∧ R.2.1 = -1
  lo : 0 ≤ R.1
  hi : R.1 ≤ 3
  fr : R.1 ≠ 0 → 0 ≤ R.2.1 ∧ R.2.1 < 256
theorem nxt_ok {T : Int} {xs ys : List Int} {rs : List Bool} (hc : lruChk xs ys rs = 0) : NxtOk (nxtS T xs ys rs) xs ys rs := by
  have hv := valid_of_chk hc
  have hnd := List.nodup_append.1 hv.nodup
  have hhi := hv.hi
  unfold nxtS
  by_cases h0 : 0 < xs.length ∧ (ys.length : Int) < T
  · rw [if_pos h0]
    have hm := lastF_mem h0.1
    have hr := hv.range (lastF xs) (by simp [hm])
    have hny : lastF xs ∉ ys := fun hy => hnd.2.2 _ hm _ hy rfl
    refine ⟨chk_dem hv h0.1 _, fun _ => ?_, fun h => absurd h (by show ¬ _ = _; dsimp only; omega), by dsimp only; omega, by dsimp only; omega, fun _ => ⟨hr.1, by dsimp only; omega⟩⟩
    have hp := h0.1
    show phi (dX xs ys) (lastF xs :: ys) _ < _
    unfold phi dX
    rw [refC_cons_set, refC_set hr.1 (fun y hy => (hv.range y (by simp [hy])).1) hny, List.length_eraseIdx, if_pos (by omega), List.length_cons]
    omega
  · rw [if_neg h0]
    by_cases h1 : ys.length = 0
    · rw [if_pos h1]
      exact ⟨hc, fun h => absurd rfl h, fun _ => ⟨rfl, rfl⟩, Int.le_refl _, by dsimp only; omega, fun h => absurd rfl h⟩
    · rw [if_neg h1]
      have hp : 0 < ys.length := by omega
      have hm := lastF_mem hp
      have hr := hv.range (lastF ys) (by simp [hm])
      have hnx : lastF ys ∉ xs := fun hx => hnd.2.2 _ hx _ hm rfl
      have hsub : ∀ y ∈ ys.eraseIdx (ys.length - 1), 0 ≤ y := fun y hy => (hv.range y (by simp [List.mem_of_mem_eraseIdx hy])).1
      have hrl := refC_last (rs := rs) hp
      have hset : refC (rs.set (lastF ys).toNat false) (ys.eraseIdx (ys.length - 1)) = refC rs (ys.eraseIdx (ys.length - 1)) := refC_set hr.1 hsub (lastF_notin hnd.2.1 hp)
      have hlen : (ys.eraseIdx (ys.length - 1)).length = ys.length - 1 := by rw [List.length_eraseIdx, if_pos (by omega)]
      by_cases h2 : lastB ys rs = true
      · rw [if_pos h2]
        rw [if_pos h2] at hrl
        refine ⟨chk_pro hv hp _, fun _ => ?_, fun h => absurd h (by show ¬ _ = _; dsimp only; omega), by dsimp only; omega, by dsimp only; omega, fun _ => ⟨hr.1, by dsimp only; omega⟩⟩
        show phi (lastF ys :: xs) (ys.eraseIdx (ys.length - 1)) _ < _
        unfold phi
        rw [hset, hlen, List.length_cons]
        omega
      · rw [if_neg h2]
        rw [if_neg h2] at hrl
        refine ⟨chk_rem hv hr.1, fun _ => ?_, fun h => absurd h (by show ¬ _ = _; dsimp only; omega), by dsimp only; omega, by dsimp only; omega, fun _ => ⟨hr.1, by dsimp only; omega⟩⟩
        show phi (wo (lastF ys) xs) (wo (lastF ys) ys) _ < _
        rw [wo_self hnx, wo_lastF hnd.2.1 hp]
        unfold phi
        rw [hset, hlen]
        omega

/-- An event of a sweep. -/
structure EvP where
  what : Int
  f : Int
  xs : List Int
  ys : List Int
  rs : List Bool
  mv : List Int
def evs (T : Int) : Nat → List Int → List Int → List Bool → List Int → List EvP
  | 0, _, _, _, _ => []
  | n + 1, xs, ys, rs, mv => if (nxtS T xs ys rs).1 = 0 then [⟨0, -1, xs, ys, rs, mv⟩] else
      ⟨(nxtS T xs ys rs).1, (nxtS T xs ys rs).2.1, (nxtS T xs ys rs).2.2.1, (nxtS T xs ys rs).2.2.2.1, (nxtS T xs ys rs).2.2.2.2, mvS (nxtS T xs ys rs).1 (nxtS T xs ys rs).2.1 mv⟩ ::
        evs T n (nxtS T xs ys rs).2.2.1 (nxtS T xs ys rs).2.2.2.1 (nxtS T xs ys rs).2.2.2.2 (mvS (nxtS T xs ys rs).1 (nxtS T xs ys rs).2.1 mv)
theorem evs_fuel (T : Int) : ∀ (n m : Nat) (xs ys : List Int) (rs : List Bool) (mv : List Int), lruChk xs ys rs = 0 → phi xs ys rs < n → phi xs ys rs < m → evs T n xs ys rs mv = evs T m xs ys rs mv
  | 0, _, _, _, _, _, _, h, _ => absurd h (by omega)
  | _ + 1, 0, _, _, _, _, _, _, h => absurd h (by omega)
  | n + 1, m + 1, xs, ys, rs, mv, hc, hn, hm => by
    have ok := nxt_ok (T := T) hc
    unfold evs
    split
    · rfl
    · rename_i h
      have := ok.low h
      rw [evs_fuel T n m _ _ _ _ ok.chk (by omega) (by omega)]
/-- All events of a sweep. -/
def full (T : Int) (xs ys : List Int) (rs : List Bool) (mv : List Int) : List EvP := evs T (phi xs ys rs + 1) xs ys rs mv
theorem full_eq {T : Int} {xs ys : List Int} {rs : List Bool} (mv : List Int) (hc : lruChk xs ys rs = 0) : full T xs ys rs mv = if (nxtS T xs ys rs).1 = 0 then [⟨0, -1, xs, ys, rs, mv⟩] else
      ⟨(nxtS T xs ys rs).1, (nxtS T xs ys rs).2.1, (nxtS T xs ys rs).2.2.1, (nxtS T xs ys rs).2.2.2.1, (nxtS T xs ys rs).2.2.2.2, mvS (nxtS T xs ys rs).1 (nxtS T xs ys rs).2.1 mv⟩ ::
        full T (nxtS T xs ys rs).2.2.1 (nxtS T xs ys rs).2.2.2.1 (nxtS T xs ys rs).2.2.2.2 (mvS (nxtS T xs ys rs).1 (nxtS T xs ys rs).2.1 mv) := by
  have ok := nxt_ok (T := T) hc
  unfold full
  conv => lhs; unfold evs
  split
  · rfl
  · rename_i h
    have := ok.low h
    rw [evs_fuel T (phi xs ys rs) (phi (nxtS T xs ys rs).2.2.1 (nxtS T xs ys rs).2.2.2.1 (nxtS T xs ys rs).2.2.2.2 + 1) _ _ _ _ ok.chk (by omega) (by omega)]
/-- A step and a sweep's step. -/
theorem nxt_step (T : Int) (xs ys : List Int) (rs : List Bool) : nxtS T xs ys rs = if (stepS T xs ys rs).1 = 3 then (3, (stepS T xs ys rs).2.1, wo (stepS T xs ys rs).2.1 (stepS T xs ys rs).2.2.1, wo (stepS T xs ys rs).2.1 (stepS T xs ys rs).2.2.2.1, (stepS T xs ys rs).2.2.2.2.set (stepS T xs ys rs).2.1.toNat false) else stepS T xs ys rs := by
  unfold nxtS stepS
  by_cases h0 : 0 < xs.length ∧ (ys.length : Int) < T
  · rw [if_pos h0, if_pos h0, if_neg (by simp)]
  · rw [if_neg h0, if_neg h0]
    by_cases h1 : ys.length = 0
    · rw [if_pos h1, if_pos h1, if_neg (by simp)]
    · rw [if_neg h1, if_neg h1]
      by_cases h2 : lastB ys rs = true
      · rw [if_pos h2, if_pos h2, if_neg (by simp)]
      · rw [if_neg h2, if_neg h2, if_pos rfl]
end Go.Proofs.Ytiobbdfkimpfbaa
namespace Go.Proofs.Ytiobbdfkimpfbaa
set_option linter.unusedSimpArgs false
set_option linter.unusedVariables false
open Go.RowKit Go.Maps

set_option maxHeartbeats 1000000 in
theorem withoutZ_any (A : Option Addr) (c : Nat) (xs : List Int) (n : Int) (w : World) (h : Sl w (.int .i64) A xs) (hn : xs.length ≤ 100000) :
    Calls Try.prog 33 #[.slice A xs.length c, .int .i64 n] w (NewPost (wo n xs) w) := by
  obtain ⟨i0, hi0, hz0, hz1, hz2⟩ := info_parts intInfo
  have HN := Lib.hid h
  clear h
  go_enter Try.func33, Try.ntmps33
  go_wp2
  go_loopw [5, 6] (fun v i wr => ∃ k : Nat, k ≤ xs.length ∧ i = .int .i64 k ∧ ∃ A' c', v = .slice A' (wo n (xs.take k)).length c' ∧ Own wr w.heap.size 3 (.int .i64) (.slice A' (wo n (xs.take k)).length c') (wo n (xs.take k)) ∧ Below w.heap.size w wr)
    (fun _ i _ => xs.length - (intOf i).toNat)
  case atStart => exact ⟨0, by omega, rfl, none, 0, rfl, World.ownsRow_nil _ _ _ _, Below.refl _ _⟩
  case round =>
    obtain ⟨k, hk, rfl, A', c', rfl, ho, hb⟩ := hrel
    by_cases hlt : k < xs.length
    · obtain ⟨b, off, x, rfl, hbl, hx, hc⟩ := (HN.out.ext hb).at_ hlt
      have HX := Lib.hid hx
      clear hx
      have hlw := wo_len n (xs.take k)
      have hlt2 : (xs.take k).length ≤ k := List.length_take_le _ _
      obtain ⟨zs, hzs⟩ : ∃ zs, wo n (xs.take k) = zs := ⟨_, rfl⟩
      rw [hzs] at ho hlw ⊢
      have HZ := Lib.hid hzs
      clear hzs
      by_cases hne : x = n
      · have hne' : (x != n) = false := by simp [hne]
        have HE := Lib.hid hne
        clear hne
        have HO := Lib.hid ho
        clear ho
        go_wp2
        go_roundw
        case rel => exact ⟨k + 1, by omega, by go_num, A', c', by rw [take_snoc' HX.out, wo_drop HE.out, HZ.out], by rw [take_snoc' HX.out, wo_drop HE.out, HZ.out]; exact HO.out, hb⟩
        case measure => simp [intOf]; omega
      · have hne' : (x != n) = true := by simpa using hne
        have HE := Lib.hid hne
        clear hne
        have hsf : Sl (wr.alloc (.cells #[.int .i64 x] 3)) (Value.int .i64) (some ⟨wr.heap.size, 0, none⟩) [x] := Sl.of_lit (t := 3) (Blk.new_ rfl rfl)
        have ho2 := ho.below (w' := wr.alloc (.cells #[.int .i64 x] 3)) (by repeat' (first | with_reducible exact Below.refl _ _ | with_reducible assumption | with_reducible apply Below.drew | with_reducible apply below_drewN | with_reducible apply Below.alloc | with_reducible apply Below.setCell | (with_reducible refine Below.trans ?_ (Below.mono (by assumption) ?_)) | (simp; done) | (simp; omega) | omega | with_reducible apply le_size_alloc | with_reducible apply le_size_drewN | with_reducible apply le_size_drew | with_reducible apply le_size_setCell | refine Nat.le_trans ?_ (Below.size (by assumption))))
        have HO := Lib.hid ho2; have HSF := Lib.hid hsf
        have hz := hb.size
        clear ho ho2 hsf
        go_wp2_with (at_builtin; refine wpList_appS (mk := Value.int .i64) _ rfl (.tmp 19) (.tmp 24) _ rfl 3 i0 _ 8 Try.underlying22 hi0 hz0 hz1 hz2 rfl w.heap.size A' c' zs rfl HO.out (some ⟨wr.heap.size, 0, none⟩) 1 [x] rfl HSF.out (int_one [x]) (by simp; omega) (by simp; omega) (by simp; omega) ?_; intro A5 c5 w5 ho5 hg5 hl5; have HO5 := Lib.hid ho5; have HG5 := Lib.hid hg5; clear ho5 hg5 hl5)
        go_roundw
        case rel =>
          refine ⟨k + 1, by omega, by go_num, A5, c5, by rw [take_snoc' HX.out, wo_keep HE.out, HZ.out]; simp, by rw [take_snoc' HX.out, wo_keep HE.out, HZ.out]; exact HO5.out, ?_⟩
          exact (hb.alloc (by omega) _).grown HG5.out (by simp; omega) (fun k hk => (HO.out.block k hk).1)
        case measure => simp [intOf]; omega
    · have HO := Lib.hid ho
      have e : xs.take k = xs := List.take_of_length_le (by omega)
      have HE := Lib.hid e
      clear ho e
      go_wp2
      go_ret
      rw [HE.out]
      exact ⟨A', c', rfl, by rw [← HE.out]; rw [HE.out]; have := HO.out; rw [HE.out] at this; exact this, hb⟩


/-- What a step does. -/
structure One (what f : Int) (xs ys us vs : List Int) (rs ss : List Bool) : Prop where
  chk : lruChk us vs ss = 0
  len : us.length + vs.length = xs.length + ys.length
  sl : ss.length = rs.length
  lo : 0 ≤ what
  hi : what ≤ 3
  none : what = 0 → f = -1 ∧ us = xs ∧ vs = ys ∧ ss = rs ∧ ys.length = 0
  fr : what ≠ 0 → 0 ≤ f ∧ f < rs.length ∧ wo f us = wo f xs ∧ wo f vs = wo f ys ∧ ∀ k : Nat, (k : Int) ≠ f → ss[k]? = rs[k]?
  wr : what = 3 → us = xs ∧ vs = ys ∧ ss = rs ∧ rs[f.toNat]? = some false
  bit : what ≠ 0 → what ≠ 3 → ss[f.toNat]? = some false
theorem set_off {rs : List Bool} {f : Int} (h0 : 0 ≤ f) (k : Nat) (hk : (k : Int) ≠ f) : (rs.set f.toNat false)[k]? = rs[k]? := by
  rw [List.getElem?_set, if_neg (by omega)]
theorem set_at {rs : List Bool} {f : Int} (h0 : 0 ≤ f) (h1 : f < rs.length) : (rs.set f.toNat false)[f.toNat]? = some false := by
  rw [List.getElem?_set, if_pos rfl, if_pos (by omega)]
theorem wo_snoc_self (f : Int) (l : List Int) : wo f (l ++ [f]) = wo f l := wo_drop rfl
theorem wo_cons_self (f : Int) (l : List Int) : wo f (f :: l) = wo f l := by simp [wo]
theorem step_one {T : Int} {xs ys : List Int} {rs : List Bool} (hc : lruChk xs ys rs = 0) : One (stepS T xs ys rs).1 (stepS T xs ys rs).2.1 xs ys (stepS T xs ys rs).2.2.1 (stepS T xs ys rs).2.2.2.1 rs (stepS T xs ys rs).2.2.2.2 := by
  have hv := valid_of_chk hc
  unfold stepS
  by_cases h0 : 0 < xs.length ∧ (ys.length : Int) < T
  · rw [if_pos h0]
    have hm := lastF_mem h0.1
    have hr := hv.range (lastF xs) (by simp [hm])
    have e := erase_last h0.1
    refine ⟨chk_dem hv h0.1 _, ?_, by simp, by simp, by simp, fun h => absurd h (by simp), fun _ => ⟨hr.1, by exact_mod_cast hr.2, ?_, ?_, fun k hk => set_off hr.1 k hk⟩, fun h => absurd h (by simp), fun _ _ => set_at hr.1 (by exact_mod_cast hr.2)⟩
    · show (xs.eraseIdx (xs.length - 1)).length + (ys.length + 1) = _
      rw [List.length_eraseIdx, if_pos (by omega)]; omega
    · show wo (lastF xs) (xs.eraseIdx (xs.length - 1)) = wo (lastF xs) xs
      exact (wo_snoc_self _ _).symm.trans (congrArg (wo (lastF xs)) e)
    · exact wo_cons_self _ _
  · rw [if_neg h0]
    by_cases h1 : ys.length = 0
    · rw [if_pos h1]
      exact ⟨hc, rfl, rfl, by simp, by simp, fun _ => ⟨rfl, rfl, rfl, rfl, h1⟩, fun h => absurd rfl h, fun h => absurd h (by simp), fun h => absurd rfl h⟩
    · rw [if_neg h1]
      have hp : 0 < ys.length := by omega
      have hm := lastF_mem hp
      have hr := hv.range (lastF ys) (by simp [hm])
      by_cases h2 : lastB ys rs = true
      · rw [if_pos h2]
        have e := erase_last hp
        refine ⟨chk_pro hv hp _, ?_, by simp, by simp, by simp, fun h => absurd h (by simp), fun _ => ⟨hr.1, by exact_mod_cast hr.2, ?_, ?_, fun k hk => set_off hr.1 k hk⟩, fun h => absurd h (by simp), fun _ _ => set_at hr.1 (by exact_mod_cast hr.2)⟩
        · show (xs.length + 1) + (ys.eraseIdx (ys.length - 1)).length = _
          rw [List.length_eraseIdx, if_pos (by omega)]; omega
        · exact wo_cons_self _ _
        · show wo (lastF ys) (ys.eraseIdx (ys.length - 1)) = wo (lastF ys) ys
          exact (wo_snoc_self _ _).symm.trans (congrArg (wo (lastF ys)) e)
      · rw [if_neg h2]
        have hb : rs[(lastF ys).toNat]? = some false := by
          have h3 : lastB ys rs = false := by simpa using h2
          unfold lastB at h3
          rw [List.getD_eq_getElem?_getD, List.getElem?_eq_getElem (by have := hr.2; have := hr.1; omega)] at h3
          rw [List.getElem?_eq_getElem (by have := hr.2; have := hr.1; omega)]
          simpa using h3
        exact ⟨hc, rfl, rfl, by simp, by simp, fun h => absurd h (by simp), fun _ => ⟨hr.1, by exact_mod_cast hr.2, rfl, rfl, fun _ _ => rfl⟩, fun _ => ⟨rfl, rfl, rfl, hb⟩, fun _ h => absurd rfl h⟩
end Go.Proofs.Ytiobbdfkimpfbaa
