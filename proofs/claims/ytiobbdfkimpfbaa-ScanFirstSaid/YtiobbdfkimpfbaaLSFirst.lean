/- ScanFirst: the first victim comes within three times as many steps as there are frames, and a whole sweep finds every frame once. -/
import Derived.Test.YtiobbdfkimpfbaaLSKnown
import Derived.Test.YtiobbdfkimpfbaaMgF
namespace Go.Proofs.Ytiobbdfkimpfbaa
set_option linter.unusedSimpArgs false
set_option linter.unusedVariables false
open Go.RowKit Go.Maps
open Go.ChangeShapes Go.WideShapes Go.ChangeAt Go.Joins

theorem wo_perm {f : Int} {l : List Int} (hn : l.Nodup) (hm : f ∈ l) : (f :: wo f l).Perm l := by
  rw [wo_erase hn]
  exact (List.perm_cons_erase hm).symm
/-- A step moves a frame, or takes it out. -/
theorem nxt_perm {T : Int} {xs ys : List Int} {rs : List Bool} (hT : 1 ≤ T) (hc : lruChk xs ys rs = 0) :
    ((nxtS T xs ys rs).1 = 0 → xs = [] ∧ ys = []) ∧ ((nxtS T xs ys rs).1 ≠ 0 → (nxtS T xs ys rs).1 ≠ 3 → ((nxtS T xs ys rs).2.2.1 ++ (nxtS T xs ys rs).2.2.2.1).Perm (xs ++ ys)) ∧
    ((nxtS T xs ys rs).1 = 3 → ((nxtS T xs ys rs).2.1 :: ((nxtS T xs ys rs).2.2.1 ++ (nxtS T xs ys rs).2.2.2.1)).Perm (xs ++ ys)) := by
  have hv := valid_of_chk hc
  unfold nxtS
  by_cases h0 : 0 < xs.length ∧ (ys.length : Int) < T
  · rw [if_pos h0]
    refine ⟨fun h => absurd h (by simp), fun _ _ => ?_, fun h => absurd h (by simp)⟩
    have e := erase_last h0.1
    show (xs.eraseIdx (xs.length - 1) ++ (xs.getD (xs.length - 1) 0 :: ys)).Perm _
    rw [show (xs.getD (xs.length - 1) 0 :: ys) = [xs.getD (xs.length - 1) 0] ++ ys from rfl, ← List.append_assoc, e]
  · rw [if_neg h0]
    by_cases h1 : ys.length = 0
    · rw [if_pos h1]
      have hy : ys = [] := List.eq_nil_of_length_eq_zero h1
      refine ⟨fun _ => ⟨List.eq_nil_of_length_eq_zero (by omega), hy⟩, fun h => absurd rfl h, fun h => absurd h (by simp)⟩
    · rw [if_neg h1]
      have hp : 0 < ys.length := by omega
      by_cases h2 : lastB ys rs = true
      · rw [if_pos h2]
        refine ⟨fun h => absurd h (by simp), fun _ _ => ?_, fun h => absurd h (by simp)⟩
        have e := erase_last hp
        show ((ys.getD (ys.length - 1) 0 :: xs) ++ ys.eraseIdx (ys.length - 1)).Perm (xs ++ ys)
        generalize ys.getD (ys.length - 1) 0 = l at *
        generalize ys.eraseIdx (ys.length - 1) = d at *
        rw [← e, ← List.append_assoc, List.cons_append]
        exact (List.perm_append_singleton l (xs ++ d)).symm
      · rw [if_neg h2]
        refine ⟨fun h => absurd h (by simp), fun _ h => absurd rfl h, fun _ => ?_⟩
        show (lastF ys :: (wo (lastF ys) xs ++ wo (lastF ys) ys)).Perm _
        rw [← wo_append]
        exact wo_perm hv.nodup (by simp [lastF_mem hp])
theorem vicP_cons (e : EvP) (l : List EvP) : vicP (e :: l) = if e.what = 3 then e.f :: vicP l else vicP l := by
  unfold vicP
  by_cases h : e.what = 3 <;> simp [h]
/-- A whole sweep finds every frame once. -/
theorem full_perm {T : Int} (hT : 1 ≤ T) : ∀ (n : Nat) (xs ys : List Int) (rs : List Bool) (mv : List Int), phi xs ys rs ≤ n → lruChk xs ys rs = 0 → (vicP (full T xs ys rs mv)).Perm (xs ++ ys) := by
  intro n
  induction n with
  | zero =>
    intro xs ys rs mv hn hc
    have hx : xs = [] := List.eq_nil_of_length_eq_zero (by unfold phi at hn; omega)
    have hy : ys = [] := List.eq_nil_of_length_eq_zero (by unfold phi at hn; omega)
    rw [full_eq mv hc]
    have ok := nxt_ok (T := T) hc
    have : (nxtS T xs ys rs).1 = 0 := by by_cases h : (nxtS T xs ys rs).1 = 0; exact h; have := ok.low h; omega
    rw [if_pos this, hx, hy]
    exact List.Perm.refl _
  | succ n ih =>
    intro xs ys rs mv hn hc
    have ok := nxt_ok (T := T) hc
    obtain ⟨p0, p1, p2⟩ := nxt_perm hT hc
    rw [full_eq mv hc]
    by_cases h : (nxtS T xs ys rs).1 = 0
    · rw [if_pos h, (p0 h).1, (p0 h).2]
      exact List.Perm.refl _
    · rw [if_neg h, vicP_cons]
      have hi := ih _ _ _ (mvS (nxtS T xs ys rs).1 (nxtS T xs ys rs).2.1 mv) (by have := ok.low h; omega) ok.chk
      by_cases h3 : (nxtS T xs ys rs).1 = 3
      · rw [if_pos (by exact h3)]
        exact (hi.cons _).trans (p2 h3)
      · rw [if_neg (by exact h3)]
        exact hi.trans (p1 h h3)
/-- The first victim. -/
theorem full_first {T : Int} (hT : 1 ≤ T) : ∀ (n : Nat) (xs ys : List Int) (rs : List Bool) (mv : List Int) (k : Int), phi xs ys rs ≤ n → lruChk xs ys rs = 0 → 0 < xs.length + ys.length →
    ∃ (f : Int) (m : Nat), fstP (full T xs ys rs mv) k = (f, k + m, 0) ∧ m < phi xs ys rs ∧ (vicP (full T xs ys rs mv))[0]? = some f := by
  intro n
  induction n with
  | zero =>
    intro xs ys rs mv k hn hc hp
    unfold phi at hn; omega
  | succ n ih =>
    intro xs ys rs mv k hn hc hp
    have ok := nxt_ok (T := T) hc
    obtain ⟨p0, p1, p2⟩ := nxt_perm hT hc
    rw [full_eq mv hc]
    have h : (nxtS T xs ys rs).1 ≠ 0 := fun h => by obtain ⟨rfl, rfl⟩ := p0 h; simp at hp
    rw [if_neg h, vicP_cons]
    have hlo := ok.low h
    unfold fstP
    by_cases h3 : (nxtS T xs ys rs).1 = 3
    · rw [if_pos (by exact h3), if_pos (by exact h3)]
      exact ⟨_, 0, by simp, by omega, rfl⟩
    · rw [if_neg (by exact h3), if_neg (by exact h3)]
      have hl := (p1 h h3).length_eq
      rw [List.length_append, List.length_append] at hl
      obtain ⟨f, m, e1, e2, e3⟩ := ih _ _ _ (mvS (nxtS T xs ys rs).1 (nxtS T xs ys rs).2.1 mv) (k + 1) (by omega) ok.chk (by omega)
      exact ⟨f, m + 1, by rw [e1]; simp; omega, by omega, e3⟩
theorem phi_le (xs ys : List Int) (rs : List Bool) : phi xs ys rs ≤ 3 * (xs.length + ys.length) := by
  have h2 : refC rs ys ≤ ys.length := List.countP_le_length
  unfold phi
  omega
theorem snd_yes {T : Int} {xs ys : List Int} {rs : List Bool} (h1 : 0 ≤ T) (h2 : T ≤ 256) (hc : lruChk xs ys rs = 0) : sndS xs ys rs (tgtB T) = 0 := by
  unfold sndS
  rw [hc, if_neg (by simp), show tgtB T = true by unfold tgtB; simp; omega]
  rfl
/-- What First and Victims say of valid lists. -/
theorem fir_vic {T : Int} {xs ys : List Int} {rs : List Bool} (h1 : 1 ≤ T) (h2 : T ≤ 256) (hc : lruChk xs ys rs = 0) :
    ∃ vs, vicS T xs ys rs = (vs, 0) ∧ vs.Perm (xs ++ ys) ∧ (xs.length + ys.length = 0 → firS T xs ys rs = (0, 0, 6)) ∧
      (0 < xs.length + ys.length → ∃ (f : Int) (m : Nat), firS T xs ys rs = (f, (m : Int), 0) ∧ m < 3 * (xs.length + ys.length) ∧ vs[0]? = some f) := by
  have hs := snd_yes (T := T) (by omega) h2 hc
  refine ⟨vicP (full T xs ys rs []), by unfold vicS; rw [hs, if_neg (by simp)], full_perm h1 _ xs ys rs [] (Nat.le_refl _) hc, fun h0 => ?_, fun hp => ?_⟩
  · obtain rfl : xs = [] := List.eq_nil_of_length_eq_zero (by omega)
    obtain rfl : ys = [] := List.eq_nil_of_length_eq_zero (by omega)
    unfold firS
    rw [hs, if_neg (by simp), full_eq [] hc]
    have : (nxtS T [] [] rs).1 = 0 := rfl
    rw [if_pos this]
    rfl
  · obtain ⟨f, m, e1, e2, e3⟩ := full_first h1 _ xs ys rs [] 0 (Nat.le_refl _) hc hp
    have := phi_le xs ys rs
    refine ⟨f, m, ?_, by omega, e3⟩
    unfold firS
    rw [hs, if_neg (by simp), e1]
    simp
theorem idx_take {vs : List Int} (hn : vs.Nodup) {k : Nat} {x : Int} (hx : vs[k]? = some x) : x ∉ vs.take k := fun hm => by
  have e := split_at' hx
  rw [e] at hn
  exact (List.nodup_append.1 hn).2.2 x hm x (by simp) rfl
/-- The marks of frames. -/
def seenL (vs : List Int) : List Bool := (List.range 20).map fun (i : Nat) => decide ((i : Int) ∈ vs)
theorem seenL_len (vs : List Int) : (seenL vs).length = 20 := by simp [seenL]
theorem seenL_at (vs : List Int) {G : Nat} (hG : G < 20) : (seenL vs)[G]? = some (decide ((G : Int) ∈ vs)) := by simp [seenL, hG]
theorem seenL_snoc (vs : List Int) {G : Nat} (hG : G < 20) : seenL (vs ++ [(G : Int)]) = (seenL vs).set G true := by
  refine List.ext_getElem? fun i => ?_
  by_cases hi : i < 20
  · rw [List.getElem?_set, seenL_at _ hi, seenL_at _ hi, seenL_len, if_pos hG]
    by_cases e : G = i
    · subst e; simp
    · rw [if_neg e]
      congr 1
      simp only [List.mem_append, List.mem_singleton]
      rw [decide_eq_decide]
      constructor
      · rintro (h | h)
        · exact h
        · omega
      · exact .inl
  · rw [List.getElem?_eq_none (by rw [seenL_len]; omega), List.getElem?_eq_none (by rw [List.length_set, seenL_len]; omega)]

set_option maxRecDepth 100000 in
set_option maxHeartbeats 8000000 in
theorem scanFirst_walk (A : Option Addr) (c : Nat) (nums : List Int) (tg : Int) (w : World) (hs : Sl w (.int .i64) A nums) (_hw : ∀ x ∈ nums, (Lit.int .i64 x).wf = true) (hl0 : nums.length ≤ maxLen) (_hw2 : (Lit.int .i64 tg).wf = true) :
    Calls Try.prog 7 #[.slice A nums.length c, .int .i64 tg] w fun e w' => e = .returned (.bool true) ∧ Below w.heap.size w w' := by
  have hl : nums.length ≤ 9223372036854775807 := by unfold maxLen at hl0; exact hl0
  have HS := Lib.hid hs
  clear hs
  go_enter Try.func7, Try.ntmps7
  go_wp2_with fail
  refine (scanKnown_walk _).mono ?_
  rintro e w1 ⟨rfl, h1⟩
  have HS1 := Lib.hid (HS.out.ext h1)
  have HB1 := Lib.hid h1
  clear HS h1
  go_wp2_with fail
  refine (madeZ_any _ _ _ _ HS1.out hl).mono ?_
  rintro e w2 ⟨A1, c1, A2, c2, A3, c3, xs, ys, rs, us0, rfl, o2, hmz, h2⟩
  have hck := hmz.chk
  have hsz := hmz.size
  have hm2 := o2.memV hck
  have HB2 := Lib.hid (HB1.out.trans (h2.mono HB1.out.size))
  obtain ⟨t, ht⟩ : ∃ t, tg % 12 = t := ⟨_, rfl⟩
  have t0 : 0 ≤ t := by omega
  have t1 : t < 12 := by omega
  have HT := Lib.hid ht
  obtain ⟨vs, hvic, hperm, hz0, hz1⟩ := fir_vic (T := 1 + t) (by omega) (by omega) hck
  have hvl := hperm.length_eq
  rw [List.length_append] at hvl
  have hvn := hperm.nodup_iff.2 hmz.nodup
  have hvr : ∀ x ∈ vs, 0 ≤ x ∧ x < 20 := fun x hx => hmz.range x (hperm.mem_iff.1 hx)
  have HVN := Lib.hid hvn; have HVR := Lib.hid hvr; have HVI := Lib.hid hvic; have HZ0 := Lib.hid hz0; have HZ1 := Lib.hid hz1
  have hvl1 : vs.length ≤ xs.length + ys.length := by omega
  have hvl2 : xs.length + ys.length ≤ vs.length := by omega
  have hne : ((vs.length : Int) != (xs.length : Int) + ys.length) = false := by simp; omega
  have hw1 : IntKind.i64.wrap (1 + t) = 1 + t := by rw [IntKind.wrap_i64]; omega
  have hw2 : IntKind.i64.wrap ((xs.length : Int) + ys.length) = xs.length + ys.length := by rw [IntKind.wrap_i64]; omega
  clear HB1 HS1 h2 o2 hmz hvl hvn hvr hvic hz0 hz1 hperm ht
  obtain ⟨V, hV⟩ : ∃ V, w2.alloc (.cells #[.slice A1 xs.length c1, .slice A2 ys.length c2, .slice A3 rs.length c3] 25) = V := ⟨_, rfl⟩
  have hbV : Below w2.heap.size w2 V := by rw [← hV]; exact (Below.refl _ _).alloc (Nat.le_refl _) _
  have HKV : Hid (Blk V w2.heap.size 25 #[.slice A1 xs.length c1, .slice A2 ys.length c2, .slice A3 rs.length c3]) := by show Blk _ _ _ _; rw [← hV]; exact Blk.new_ rfl rfl
  have HMV := Lib.hid (hm2.ext hbV)
  have HBV := Lib.hid (HB2.out.trans (hbV.mono HB2.out.size))
  have q0 : V.cell? ⟨w2.heap.size, 0, none⟩ = some (.slice A1 xs.length c1) := (HKV.out.cell_ 0).trans (by simp)
  have q1 : V.cell? ⟨w2.heap.size, 1, none⟩ = some (.slice A2 ys.length c2) := (HKV.out.cell_ 1).trans (by simp)
  have q2 : V.cell? ⟨w2.heap.size, 2, none⟩ = some (.slice A3 rs.length c3) := (HKV.out.cell_ 2).trans (by simp)
  have HV := Lib.hid hV
  clear hV hbV HB2 hm2
  go_wp2_with (first | (rw [HV.out]) | (go_at_call 31; refine (Mod_any _ _ _ (by omega) (by omega)).mono ?_; rw [HT.out]; rintro e w' ⟨rfl, rfl⟩))
  refine (First_any A1 A2 A3 c1 c2 c3 xs ys rs (1 + t) _ HMV.out).mono ?_
  obtain ⟨F, hF⟩ : ∃ F, firS (1 + t) xs ys rs = F := ⟨_, rfl⟩
  obtain ⟨F1, F2, F3⟩ := F
  have HF := Lib.hid hF
  clear hF
  rw [HF.out]
  rintro e x3 ⟨rfl, h3⟩
  dsimp only
  have HM3 := Lib.hid (HMV.out.ext h3)
  have HB3 := Lib.hid (HBV.out.trans (h3.mono HBV.out.size))
  have HK3 := Lib.hid (HKV.out.below_ h3 HKV.out.lt)
  clear HMV HBV HKV h3 q0 q1 q2 HV
  have q0 : x3.cell? ⟨w2.heap.size, 0, none⟩ = some (.slice A1 xs.length c1) := (HK3.out.cell_ 0).trans (by simp)
  have q1 : x3.cell? ⟨w2.heap.size, 1, none⟩ = some (.slice A2 ys.length c2) := (HK3.out.cell_ 1).trans (by simp)
  have q2 : x3.cell? ⟨w2.heap.size, 2, none⟩ = some (.slice A3 rs.length c3) := (HK3.out.cell_ 2).trans (by simp)
  go_wp2_with fail
  refine (Victims_any A1 A2 A3 c1 c2 c3 xs ys rs (1 + t) _ HM3.out).mono ?_
  rw [HVI.out]
  rintro e x4 ⟨X, d, rfl, hsx, h4⟩
  dsimp only at hsx ⊢
  have HB4 := Lib.hid (HB3.out.trans (h4.mono HB3.out.size))
  have HSX := Lib.hid hsx
  clear hsx h4 HM3 HB3 HK3 q0 q1 q2 HVI
  by_cases hp : xs.length + ys.length = 0
  · have hr := HZ0.out hp
    rw [HF.out] at hr
    injection hr with e1 e2
    injection e2 with e2 e3
    subst e1 e2 e3
    have j0 : xs.length = 0 := by omega
    have j1 : ys.length = 0 := by omega
    have j2 : vs.length = 0 := by omega
    clear HZ0 HZ1 HF HVN HVR hne hw2
    simp only [j0, j1, j2]
    go_wp2_with fail
    go_ret
    exact ⟨rfl, HB4.out⟩
  · obtain ⟨f, m, hr, hm, hv0⟩ := HZ1.out (by omega)
    rw [HF.out] at hr
    injection hr with e1 e2
    injection e2 with e2 e3
    subst e1 e2 e3
    have HV0 := Lib.hid hv0
    have d0 : ((xs.length : Int) + ys.length == 0) = false := by simp; omega
    have i0 : (m : Int) < 3 * ((xs.length : Int) + ys.length) := by omega
    have w3 : IntKind.i64.wrap (3 * ((xs.length : Int) + ys.length)) = 3 * ((xs.length : Int) + ys.length) := by rw [IntKind.wrap_i64]; omega
    clear HZ0 HZ1 HF hv0 hm
    go_wp2_with fail
    go_loopw [14] (fun i wr => ∃ k : Nat, k ≤ vs.length ∧ i = .int .i64 k ∧ Blk wr x4.heap.size 53 ((seenL (vs.take k)).map Value.bool).toArray ∧ Below x4.heap.size x4 wr) (fun i _ => vs.length - (intOf i).toNat)
    case atStart => exact ⟨0, by omega, rfl, Blk.new_ (by simp) rfl, (Below.refl _ _).alloc (Nat.le_refl _) _⟩
    case round =>
      obtain ⟨k, hk, rfl, hkb, hb⟩ := hrel
      by_cases hlt : k < vs.length
      · obtain ⟨b, off, x, rfl, hbl, hx, hc⟩ := (HSX.out.ext hb).at_ hlt
        have hxr := HVR.out x (List.mem_of_getElem? hx)
        obtain ⟨G, rfl⟩ : ∃ G : Nat, x = G := ⟨x.toNat, by omega⟩
        have hG20 : G < 20 := by omega
        have hG0 : ¬ (20 : Int) ≤ G := by omega
        have hG1 : (G : Int) < 20 := by omega
        have hno := idx_take HVN.out hx
        have HEX : Hid (seenL (vs.take (k + 1)) = (seenL (vs.take k)).set G true) := by
          show _ = _
          rw [List.take_add_one, hx]
          exact seenL_snoc _ hG20
        have i1 : (k : Int) < vs.length := by omega
        have hkl : k ≤ 20 := by omega
        have m0 : wr.cell? ⟨x4.heap.size, G, none⟩ = some (.bool false) := (hkb.cell_ G).trans (by simp [seenL_at _ hG20, hno])
        have m1 := hkb.frozen_ G
        have hwk : IntKind.i64.wrap (k : Int) = k := by rw [IntKind.wrap_i64]; omega
        have hwg : IntKind.i64.wrap (G : Int) = G := by rw [IntKind.wrap_i64]; omega
        have HKB := Lib.hid hkb; have HBB := Lib.hid hb
        clear hx hno hkb hb hxr
        go_wp2_with fail
        go_roundw
        case rel =>
          refine ⟨k + 1, by omega, by go_num, ?_, HBB.out.setCell (p := ⟨x4.heap.size, G, none⟩) (Nat.le_refl _) _⟩
          rw [HEX.out, List.map_set]
          have := HKB.out.set_ G (.bool true)
          simpa using this
        case measure => simp [intOf]; omega
      · obtain rfl : k = vs.length := by omega
        have HBF : Hid (Below w.heap.size w wr) := HB4.out.trans (hb.mono HB4.out.size)
        have hv1 : 0 < vs.length := by omega
        obtain ⟨b, off, x, rfl, hbl, hx, hc⟩ := (HSX.out.ext hb).at_ hv1
        rw [HV0.out] at hx
        injection hx with hx
        subst hx
        rw [Nat.add_zero] at hc
        have hv2 : (0 : Int) < vs.length := by omega
        clear hkb hb
        go_wp2_with fail
        go_ret
        exact ⟨rfl, HBF.out⟩

set_option maxRecDepth 100000 in
theorem scanFirst_lifted (os : Os) (started : os.Started) (H : Type) (enc : TypeId × Value → H) :
    ReturnsInHanded {} Try.checked os 7 .any (Rows.scanFirstSpec.pre6 enc Try.prog Try.f7 Rows.scanFirstRow.domain false) (Rows.scanFirstSpec.post enc Try.prog Try.f7 false true false false) := by
  refine returnsInHanded_of_change (C := Try.checked) own started (by kernel_rfl) Try.func7
    (ChangeSpec.witness6 (enc := enc) (C := Try.checked) false ⟨#[], #[.slice none 0 0, .int .i64 0], []⟩ 8 (by kernel_rfl) (by kernel_rfl) (by kernel_rfl) (by kernel_rfl)) ?_
  intro W base args ds gs before hval0 hW hcnd _
  have hval : ∀ (j : Nat) t v, Try.f7.params[j]? = some t → args[j]? = some v → Value.okWide Try.prog W .any base t v := hval0
  have hW' := hW
  obtain ⟨p, q, hA0, hV, rfl, hfz, hnd⟩ := hW
  have hA : DataW.TrodAll enc Try.prog W 0 (fun _ => true) true Try.f7.params.toList args.toList ds p := hA0
  rw [Try.params7] at hA hval
  obtain ⟨v0, vs0, d0, ds0, p0, q0, hargs, rfl, rfl, h0, r0⟩ := trodAll_cons hA
  obtain ⟨v1, vs1, d1, ds1, p1, q1, rfl, rfl, rfl, h1, r1⟩ := trodAll_cons r0
  obtain ⟨rfl, rfl, rfl⟩ := trodAll_nil r1
  obtain rfl : args = #[v0, v1] := by cases args; simp_all
  obtain ⟨rfl, rfl⟩ := trodVars_none hV
  obtain ⟨A0, k0, a0, rfl, s0, w0, l0⟩ := open_slI Try.underlying22 Try.underlying3 (by kernel_rfl) (hval 0 22 v0 rfl rfl) h0
  obtain ⟨a1, rfl, rfl, rfl, w1⟩ := open_int Try.underlying3 (hval 1 3 v1 rfl rfl) h1
  clear hA0 hval0
  refine (scanFirst_walk A0 k0 a0 a1 W s0 w0 l0 w1).mono fun e W' ⟨he, hb⟩ => ⟨_, he, ?_⟩
  exact law_post laidOut (s := Rows.scanFirstSpec) (B := 4) rfl rfl Try.underlying4 (by decide +kernel) hW' rfl hb

theorem scanFirst_holds : Rows.ScanFirstSaid :=
  OpenClaim.holds_of_wide 7 Try.f7 rfl rfl rfl rfl rfl rfl rfl ⟨rfl, rfl, rfl, rfl, rfl⟩ rfl rfl rfl rfl rfl (by kernel_rfl) Try.func7 (by kernel_rfl)
    (of_decide_eq_true (by kernel_rfl)) (by unfold Func.isWrapper; first | (rw [if_pos (by decide +kernel)]; kernel_rfl) | (rw [if_neg (by decide +kernel)]; exact ⟨rfl, rfl⟩))
    (fun os started H enc _ => scanFirst_lifted os started H enc)

end Go.Proofs.Ytiobbdfkimpfbaa
