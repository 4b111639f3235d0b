/- RmapForks. Written by gen_lforks.py. -/
import Derived.Test.YtbeddhamnefpiaaRL5
namespace Go.Proofs.Ytbeddhamnefpiaa
set_option linter.unusedSimpArgs false
set_option linter.unusedVariables false
open Go.RowKit Go.Maps
open Go.ChangeShapes Go.WideShapes Go.ChangeAt Go.Joins Go.Deep

/-- Two rows that share no block (the second one is not empty). -/
def Apart (A5 A : Option Addr) (n : Nat) : Prop := 0 < n → ∀ g, A5.map (·.block) = some g → A.map (·.block) ≠ some g

set_option maxRecDepth 100000 in
set_option maxHeartbeats 4000000 in
theorem rmapForks_walk (A : Option Addr) (c : Nat) (nums : List Int) (n : Int) (w : World) (hs : Sl w (.int .i64) A nums) (_hw : ∀ x ∈ nums, (Lit.int .i64 x).wf = true) (hl0 : nums.length ≤ maxLen) (_hn : (Lit.int .i64 n).wf = true) :
    Calls Try.prog 9 #[.slice A nums.length c, .int .i64 n] w fun e w' => e = .returned (.bool true) ∧ Below w.heap.size w w' := by
  have hl : nums.length ≤ 9223372036854775807 := by unfold maxLen at hl0; exact hl0
  obtain ⟨i0, hi0, hz0, hz1, hz2⟩ := info_parts intInfo
  have m0 : 0 ≤ n % 4 := Int.emod_nonneg _ (by decide)
  have m1 : n % 4 < 4 := Int.emod_lt_of_pos _ (by decide)
  obtain ⟨y, hy⟩ : ∃ y, n % 4 = y := ⟨_, rfl⟩
  rw [hy] at m0 m1
  have HY := Lib.hid hy
  clear hy
  obtain ⟨p, hp⟩ : ∃ p, 1 + y = p := ⟨_, rfl⟩
  have hwr : IntKind.i64.wrap (1 + y) = p := (IntWalk.i64_in _ (by omega)).trans hp
  have HPP : Hid (1 ≤ p ∧ p ≤ 4) := by show _ ∧ _; omega
  have HS : Hid (Sl w (.int .i64) A nums) := hs
  clear hs
  have B : Hid (Below w.heap.size w w) := Below.refl _ _
  go_enter Try.func9, Try.ntmps9
  go_wp2_with fail
  refine (known_any _).mono ?_
  rintro e x1 ⟨rfl, hb⟩
  have b : Below w.heap.size w x1 := (by repeat' (first | with_reducible exact Below.refl _ _ | with_reducible assumption | with_reducible apply Below.drew | with_reducible apply below_drewN | with_reducible apply Below.alloc | with_reducible apply Below.setCell | (with_reducible refine Below.trans ?_ (Below.mono (by assumption) ?_)) | (simp; done) | (simp; omega) | omega | with_reducible apply le_size_alloc | with_reducible apply le_size_drewN | with_reducible apply le_size_drew | with_reducible apply le_size_setCell | refine Nat.le_trans ?_ (Below.size (by assumption))))
  clear hb
  replace HS : Hid (Sl x1 (.int .i64) A nums) := HS.out.ext b
  replace B : Hid (Below w.heap.size w x1) := B.out.trans (b.mono B.out.size)
  clear b
  go_wp2_with fail
  refine (made_any A c nums _ HS.out hl).mono ?_
  rintro e x2 ⟨l, A1, c1, rfl, ml, hc1, hb⟩
  have b : Below x1.heap.size x1 x2 := (by repeat' (first | with_reducible exact Below.refl _ _ | with_reducible assumption | with_reducible apply Below.drew | with_reducible apply below_drewN | with_reducible apply Below.alloc | with_reducible apply Below.setCell | (with_reducible refine Below.trans ?_ (Below.mono (by assumption) ?_)) | (simp; done) | (simp; omega) | omega | with_reducible apply le_size_alloc | with_reducible apply le_size_drewN | with_reducible apply le_size_drew | with_reducible apply le_size_setCell | refine Nat.le_trans ?_ (Below.size (by assumption))))
  clear hb
  replace HS : Hid (Sl x2 (.int .i64) A nums) := HS.out.ext b
  replace B : Hid (Below w.heap.size w x2) := B.out.trans (b.mono B.out.size)
  have C1 : Hid (CR mapE x2 A1 c1 l) := hc1
  clear hc1
  clear b
  clear HS
  obtain ⟨a, hF⟩ := fork_facts ml HPP.out
  have HF := Lib.hid hF
  have LL : Hid (l.length ≤ 1000) := by show _ ≤ _; have := ml.len; omega
  have LA : Hid (a.length ≤ 1000) := by show _ ≤ _; have := hF.len; omega
  obtain ⟨⟨Lc, zc⟩, hc⟩ : ∃ r, cnsM l = r := ⟨_, rfl⟩
  have g0 := cnsM_ok ml.ok
  have G : Hid (∀ k : Nat, k < 256 → Lc[k]? = some (cntM l k)) := by
    show ∀ _, _
    intro k hk
    have := cnsM_at2 ml.ok hk
    rwa [hc] at this
  rw [hc] at g0
  obtain ⟨rfl, hLc⟩ := g0
  dsimp only at hLc
  have HC := Lib.hid hc
  have HLC := Lib.hid hLc
  clear hc hF ml
  go_wp2_with fail
  refine (Mod_any _ _ _ (by omega) (by omega)).mono ?_
  rw [HY.out]
  rintro e w' ⟨rfl, rfl⟩
  go_wp2_with fail
  refine (Fork_any A1 c1 l p 7 _ C1.out.1 LL.out).mono ?_
  unfold LePost
  rw [HF.out.frk]
  rintro e x3 ⟨A2, c2, rfl, hc2, hb⟩
  have b : Below x2.heap.size x2 x3 := (by repeat' (first | with_reducible exact Below.refl _ _ | with_reducible assumption | with_reducible apply Below.drew | with_reducible apply below_drewN | with_reducible apply Below.alloc | with_reducible apply Below.setCell | (with_reducible refine Below.trans ?_ (Below.mono (by assumption) ?_)) | (simp; done) | (simp; omega) | omega | with_reducible apply le_size_alloc | with_reducible apply le_size_drewN | with_reducible apply le_size_drew | with_reducible apply le_size_setCell | refine Nat.le_trans ?_ (Below.size (by assumption))))
  clear hb
  replace C1 : Hid (CR mapE x3 A1 c1 l) := C1.out.ext b
  replace B : Hid (Below w.heap.size w x3) := B.out.trans (b.mono B.out.size)
  have C2 : Hid (CR mapE x3 A2 c2 a) := hc2
  clear hc2
  clear b
  go_wp2_with fail
  refine (Exit_new A2 c2 a 7 _ C2.out.1 LA.out HF.out.ok (by decide)).mono ?_
  unfold ExtPost2
  rw [HF.out.kept, HF.out.free]
  rintro e x4 ⟨A3, c3, A4, c4, rfl, hc3, hs4, hb, _, _⟩
  have b : Below x3.heap.size x3 x4 := (by repeat' (first | with_reducible exact Below.refl _ _ | with_reducible assumption | with_reducible apply Below.drew | with_reducible apply below_drewN | with_reducible apply Below.alloc | with_reducible apply Below.setCell | (with_reducible refine Below.trans ?_ (Below.mono (by assumption) ?_)) | (simp; done) | (simp; omega) | omega | with_reducible apply le_size_alloc | with_reducible apply le_size_drewN | with_reducible apply le_size_drew | with_reducible apply le_size_setCell | refine Nat.le_trans ?_ (Below.size (by assumption))))
  clear hb
  replace C1 : Hid (CR mapE x4 A1 c1 l) := C1.out.ext b
  replace C2 : Hid (CR mapE x4 A2 c2 a) := C2.out.ext b
  replace B : Hid (Below w.heap.size w x4) := B.out.trans (b.mono B.out.size)
  have C3 : Hid (CR mapE x4 A3 c3 l) := hc3
  clear hc3
  clear b
  clear hs4
  go_wp2_with fail
  refine (SameMaps_any A3 A1 c3 c1 l l _ C3.out.1 C1.out.1 LL.out LL.out).mono ?_
  rw [decide_eq_true rfl]
  rintro e x5 ⟨rfl, hb⟩
  have b : Below x4.heap.size x4 x5 := (by repeat' (first | with_reducible exact Below.refl _ _ | with_reducible assumption | with_reducible apply Below.drew | with_reducible apply below_drewN | with_reducible apply Below.alloc | with_reducible apply Below.setCell | (with_reducible refine Below.trans ?_ (Below.mono (by assumption) ?_)) | (simp; done) | (simp; omega) | omega | with_reducible apply le_size_alloc | with_reducible apply le_size_drewN | with_reducible apply le_size_drew | with_reducible apply le_size_setCell | refine Nat.le_trans ?_ (Below.size (by assumption))))
  clear hb
  replace C1 : Hid (CR mapE x5 A1 c1 l) := C1.out.ext b
  replace C2 : Hid (CR mapE x5 A2 c2 a) := C2.out.ext b
  replace C3 : Hid (CR mapE x5 A3 c3 l) := C3.out.ext b
  replace B : Hid (Below w.heap.size w x5) := B.out.trans (b.mono B.out.size)
  clear b
  clear C3
  go_wp2_with fail
  go_loopw [13, 14, 15] (fun fr nw k wr => ∃ (kk : Nat) (F : List Int) (N : List M3) (A5 : Option Addr) (c5 : Nat) (A6 : Option Addr) (c6 : Nat), 1 ≤ kk ∧ kk ≤ 9 ∧ k = .int .i64 kk ∧ fr = .slice A5 F.length c5 ∧ nw = .slice A6 N.length c6 ∧ Hid (GoneF a N F kk) ∧ Hid (Own wr x5.heap.size 3 (.int .i64) (.slice A5 F.length c5) F) ∧ Hid (SR mapE wr A6 N) ∧ Hid (Apart A5 A6 N.length) ∧ Hid (Below x5.heap.size x5 wr)) (fun _ _ k _ => 9 - (intOf k).toNat)
  case atStart => exact ⟨1, [], a, none, 0, A2, c2, by omega, by omega, rfl, rfl, rfl, GoneF.start HF.out, World.ownsRow_nil _ _ _ _, C2.out.1, (fun _ g hg => by cases hg), Below.refl _ _⟩
  case round =>
    obtain ⟨kk, F, N, A5, c5, A6, c6, hk1, hk9, rfl, rfl, rfl, HG, HO, HN, HAP, HBW⟩ := hrel
    by_cases hk8 : kk ≤ 8
    · have i1 : (kk : Int) ≤ 8 := by omega
      have d1 : Hid (decide (1 ≤ (kk : Int) ∧ (kk : Int) ≤ 8) = true) := by show _ = _; simp; omega
      have LN : Hid (N.length ≤ 1000) := by show _ ≤ _; have := HG.out.len; omega
      obtain ⟨KN, hKN⟩ : ∃ KN, keptM N kk = KN := ⟨_, rfl⟩
      obtain ⟨Fr, hFr⟩ : ∃ Fr, freedM N kk = Fr := ⟨_, rfl⟩
      have HNX : Hid (GoneF a KN (F ++ Fr) (kk + 1)) := by have := HG.out.next; rwa [hKN, hFr] at this
      have HNI : Hid (∀ (i : Nat) z, Fr[i]? = some z → z ∉ F ++ Fr.take i) := by
        show ∀ _, _
        intro i z hz
        have h := HG.out.not_in (i := i) (x := z) (by rw [hFr]; exact hz)
        rwa [hFr] at h
      have HFL : Hid (F.length + Fr.length ≤ 5000) := by
        show _ ≤ _
        have h1 := HG.out.flen
        have h2 := freedM_len N kk
        rw [hFr] at h2
        omega
      have frl : Fr.length ≤ 256 := by rw [← hFr]; exact freedM_len N kk
      have HKN := Lib.hid hKN; have HFR := Lib.hid hFr
      clear hKN hFr
      go_wp2_with (go_at_call 23; refine (Exit_new A6 c6 N kk wr HN.out LN.out HG.out.ok d1.out).mono ?_; unfold ExtPost2; rw [HKN.out, HFR.out]; rintro e w7 ⟨A7, c7, A8, c8, rfl, hc7, hs8, hb7, hF7, hF8⟩)
      have B7 : Hid (Below x5.heap.size x5 w7) := HBW.out.trans (hb7.mono HBW.out.size)
      have HO7 : Hid (Own w7 x5.heap.size 3 (.int .i64) (.slice A5 F.length c5) F) := HO.out.below hb7
      have H7 : Hid (SR mapE w7 A7 KN) := hc7.1
      have H8 : Hid (Sl w7 (.int .i64) A8 Fr) := hs8
      have AP7 : Hid (Apart A5 A7 KN.length) := fun _ g hg e => by have h1 := HO.out.blockLt hg; have h2 := hF7 g e; omega
      have AP8 : Hid (Apart A5 A8 Fr.length) := fun _ g hg e => by have h1 := HO.out.blockLt hg; have h2 := hF8 g e; omega
      clear hc7 hs8 hb7 hF7 hF8 HO HN HAP HBW
      go_loopw [13, 19] (fun fr i wq => ∃ (j : Nat) (Q : List Int) (A9 : Option Addr) (c9 : Nat), j ≤ Fr.length ∧ i = .int .i64 j ∧ fr = .slice A9 Q.length c9 ∧ Hid (F ++ Fr.take j = Q) ∧ Hid (Own wq x5.heap.size 3 (.int .i64) (.slice A9 Q.length c9) Q) ∧ Hid (SR mapE wq A7 KN) ∧ Hid (Sl wq (.int .i64) A8 Fr) ∧ Hid (Apart A9 A7 KN.length) ∧ Hid (Apart A9 A8 Fr.length) ∧ Hid (Below x5.heap.size x5 wq)) (fun _ i _ => Fr.length - (intOf i).toNat)
      case atStart => exact ⟨0, F, A5, c5, by omega, rfl, rfl, by show _ = _; simp, HO7.out, H7.out, H8.out, AP7.out, AP8.out, B7.out⟩
      case round =>
        obtain ⟨j, Q, A9, c9, hj, rfl, rfl, HQ, HO9, HN9, HS9, P7, P8, HB9⟩ := hrel
        by_cases hj' : j < Fr.length
        · have j1 : (j : Int) < Fr.length := by omega
          obtain ⟨b, off, z, e8, hbl, hz, q0⟩ := HS9.out.at_ hj'
          subst e8
          have hni := HNI.out j z hz
          rw [HQ.out] at hni
          have HNO := Lib.hid hni
          have HQ2 : Hid (F ++ Fr.take (j + 1) = Q ++ [z]) := by
            show _ = _
            obtain ⟨h1, rfl⟩ := List.getElem?_eq_some_iff.1 hz
            rw [List.take_succ_eq_append_getElem h1, ← List.append_assoc, HQ.out]
          have hql : Q.length ≤ 5000 := by
            rw [← HQ.out, List.length_append, List.length_take]
            have := HFL.out
            omega
          have HSQ : Hid (Sl wr (.int .i64) A9 Q) := by
            obtain ⟨A', c', e', hsl⟩ := HO9.out.sl
            injection e' with e1 e2 e3
            subst e1
            exact hsl
          have ba : Below wr.heap.size wr (wr.alloc (.cells #[.int .i64 z] 3)) := (Below.refl _ _).alloc (Nat.le_refl _) _
          have BA := Lib.hid ba
          have LB := Lib.hid hbl
          clear hz hni ba
          go_wp2_with (first | (go_at_call 41; refine (Has_any A9 c9 Q z wr HSQ.out (by omega)).mono ?_; rw [decide_eq_false HNO.out]; rintro e w8 ⟨rfl, rfl⟩) | (at_builtin; refine wpList_appJ (mk := Value.int .i64) _ rfl (.tmp 91) (.tmp 96) _ rfl 3 i0 _ 8 Try.underlying35 hi0 hz0 hz1 hz2 rfl x5.heap.size A9 c9 Q rfl ?_ _ 1 [z] rfl (Sl.of_lit (t := 3) (xs := [z]) ?_) (int_one _) (by simp; omega) (by simp; omega) ?_ ?_; (exact HO9.out.below BA.out); (exact Blk.new_ rfl rfl); (exact Nat.le_trans HB9.out.size (by simp)); intro A4' c4' w4 ho4 hg4 hfr4))
          have HO4 := Lib.hid ho4
          have lt7 : ∀ q, 0 < KN.length → A7.map (·.block) = some q → q < (wr.alloc (.cells #[.int .i64 z] 3)).heap.size := fun q h h2 => by have := HN9.out.blockLt h h2; simp; omega
          have HN4 : Hid (SR mapE w4 A7 KN) := (HN9.out.ext BA.out).grownN hg4 P7.out
          have HS4 : Hid (Sl w4 (.int .i64) (some ⟨b, off, none⟩) Fr) := (HS9.out.ext BA.out).grownN hg4 P8.out
          have P74 : Hid (Apart A4' A7 KN.length) := fun h g hg e => by
            rcases hfr4 with h1 | ⟨g', h1, h2⟩
            · exact P7.out h g (h1 ▸ hg) e
            · rw [h1] at hg
              injection hg with hg
              subst hg
              have := lt7 _ h e
              omega
          have P84 : Hid (Apart A4' (some ⟨b, off, none⟩) Fr.length) := fun h g hg e => by
            rcases hfr4 with h1 | ⟨g', h1, h2⟩
            · exact P8.out h g (h1 ▸ hg) e
            · rw [h1] at hg
              injection hg with hg
              subst hg
              simp at e h2
              have := LB.out
              omega
          have HB4 : Hid (Below x5.heap.size x5 w4) := by
            refine (HB9.out.trans (BA.out.mono HB9.out.size)).grown hg4 (by have := HB9.out.size; simp; omega) (fun g hg => ?_)
            exact (HO9.out.below BA.out).blockI hg
          clear ho4 hg4 hfr4 lt7
          go_roundw
          case rel => exact ⟨j + 1, Q ++ [z], A4', c4', by omega, by go_num, by simp, HQ2.out, HO4.out, HN4.out, HS4.out, P74.out, P84.out, HB4.out⟩
          case measure => simp [intOf]; omega
        · have j1 : ¬ ((j : Int) < Fr.length) := by omega
          have HQ3 : Hid (F ++ Fr = Q) := by show _ = _; rw [← HQ.out, List.take_of_length_le (by omega)]
          have HNX2 := HNX.out
          rw [HQ3.out] at HNX2
          have HNX3 := Lib.hid HNX2
          clear HNX2
          go_wp2_with fail
          go_roundw
          case rel => exact ⟨kk + 1, Q, KN, A9, c9, A7, c7, by omega, by omega, by go_num, rfl, rfl, HNX3.out, HO9.out, HN9.out, P7.out, HB9.out⟩
          case measure => simp [intOf]; omega
    · have i1 : ¬ ((kk : Int) ≤ 8) := by omega
      obtain rfl : kk = 9 := by omega
      have hNn := HG.out.done
      subst hNn
      have flen : Hid (F.length ≤ 100000) := by show _ ≤ _; have := HG.out.flen; omega
      have HLAST : Hid (∀ k : Nat, k < 256 → decide (0 < cntM l k) = decide ((k : Int) ∈ F)) := by show ∀ _, _; intro k hk; exact HG.out.last HF.out hk
      have C1r : Hid (SR mapE wr A1 l) := C1.out.1.ext HBW.out
      have HSF0 : Hid (Sl wr (.int .i64) A5 F) := by
        obtain ⟨A', c', e', hsl⟩ := HO.out.sl
        injection e' with e1 e2 e3
        subst e1
        exact hsl
      go_wp2_with (go_at_call 18; refine (Counts_any A1 c1 l wr C1r.out LL.out).mono ?_; unfold CnsPost; rw [HC.out]; rintro e w8 ⟨A8, c8, rfl, hc8, hb8⟩)
      have H8 := Lib.hid hc8
      have HSF8 : Hid (Sl w8 (.int .i64) A5 F) := HSF0.out.ext hb8
      have B8 : Hid (Below x5.heap.size x5 w8) := HBW.out.trans (hb8.mono HBW.out.size)
      clear hc8 hb8
      go_loopw [22] (fun i wq => ∃ k : Nat, k ≤ 256 ∧ i = .int .i64 k ∧ Below w8.heap.size w8 wq) (fun i _ => 256 - (intOf i).toNat)
      case atStart => exact ⟨0, by omega, rfl, Below.refl _ _⟩
      case round =>
        obtain ⟨k, hk, rfl, hbq⟩ := hrel
        by_cases hk' : k < 256
        · have k1 : (k : Int) < 256 := by omega
          obtain ⟨b4, off4, K, rfl, hb4, hK, q4⟩ := (H8.out.ext hbq).at_ (k := k) (by rw [HLC.out]; exact hk')
          rw [G.out k hk'] at hK
          injection hK with hK
          have hla := HLAST.out k hk'
          rw [hK] at hla
          obtain ⟨d, hd0⟩ : ∃ d, decide ((k : Int) ∈ F) = d := ⟨_, rfl⟩
          rw [hd0] at hla
          have HD := Lib.hid hd0
          have HSF : Hid (Sl wr (.int .i64) A5 F) := HSF8.out.ext hbq
          clear hK hd0
          go_wp2_with fail
  
          refine wp_region_chain [.is ?fz0, .is ?fz1, .is ?fz2, .is ?fz3, .is ?fz4, .is ?fz5, .is ?fz6, .is (.bool d), .is (.bool false)] (by kernel_rfl) (by kernel_rfl) (by kernel_rfl) (lasts_is (lasts_is (lasts_is (lasts_is (lasts_is (lasts_is (lasts_is (lasts_is (lasts_is lasts_nil))))))))) (fun W0 hb0 hz0 => ?_)
          rotate_left 7
          refine chain_is (step_take (by rfl) ?yz0) ?rz0
          case yz0 =>
            intro w hbw hd
            clear hd
            go_simp
            first | done | with_reducible rfl
          (try simp only [Act.put, List.setIfInBounds_toArray, List.set_cons_zero, List.set_cons_succ, List.nil_append, List.cons_append])
          refine chain_is (step_take (by rfl) ?yz1) ?rz1
          case yz1 =>
            intro w hbw hd
            clear hd
            go_simp
            first | done | with_reducible rfl
          (try simp only [Act.put, List.setIfInBounds_toArray, List.set_cons_zero, List.set_cons_succ, List.nil_append, List.cons_append])
          refine chain_is (step_take (by rfl) ?yz2) ?rz2
          case yz2 =>
            intro w hbw hd
            clear hd
            go_simp
            first | done | with_reducible rfl
          (try simp only [Act.put, List.setIfInBounds_toArray, List.set_cons_zero, List.set_cons_succ, List.nil_append, List.cons_append])
          refine chain_is (step_take (by rfl) ?yz3) ?rz3
          case yz3 =>
            intro w hbw hd
            have e0 := cell_keep (hb0.trans (hbw.mono hb0.size)) q4 hb4
            clear hd
            go_simp
            first | done | with_reducible rfl
          (try simp only [Act.put, List.setIfInBounds_toArray, List.set_cons_zero, List.set_cons_succ, List.nil_append, List.cons_append])
          refine chain_is (step_take (by rfl) ?yz4) ?rz4
          case yz4 =>
            intro w hbw hd
            clear hd
            go_simp
            first | done | with_reducible rfl
          (try simp only [Act.put, List.setIfInBounds_toArray, List.set_cons_zero, List.set_cons_succ, List.nil_append, List.cons_append])
          refine chain_is (step_take (by rfl) ?yz5) ?rz5
          case yz5 =>
            intro w hbw hd
            clear hd
            go_simp
            first | done | with_reducible rfl
          (try simp only [Act.put, List.setIfInBounds_toArray, List.set_cons_zero, List.set_cons_succ, List.nil_append, List.cons_append])
          refine chain_is (step_take (by rfl) ?yz6) ?rz6
          case yz6 =>
            intro w hbw hd
            clear hd
            go_simp
            first | done | with_reducible rfl
          (try simp only [Act.put, List.setIfInBounds_toArray, List.set_cons_zero, List.set_cons_succ, List.nil_append, List.cons_append])
          refine chain_is ?sz7 ?rz7
          case sz7 =>
            intro w hbw hd K Q' hK
            clear hd
            go_simp
            refine (Has_any A5 c5 F (k : Int) _ (HSF.out.ext (hb0.trans (hbw.mono hb0.size))) flen.out).mono ?_
            rw [HD.out]
            rintro e x1 ⟨rfl, rfl⟩
            go_wp2_with fail
            refine hK.out (.bool d) _ _ ?_ ?_ rfl
            · (simp only [Act.put, List.setIfInBounds_toArray, List.set_cons_zero, List.set_cons_succ, List.nil_append, List.cons_append])
            · exact (by repeat' (first | with_reducible exact Below.refl _ _ | with_reducible assumption | with_reducible apply Below.drew | with_reducible apply below_drewN | with_reducible apply Below.alloc | with_reducible apply Below.setCell | (with_reducible refine Below.trans ?_ (Below.mono (by assumption) ?_)) | (simp; done) | (simp; omega) | omega | with_reducible apply le_size_alloc | with_reducible apply le_size_drewN | with_reducible apply le_size_drew | with_reducible apply le_size_setCell | with_reducible refine Nat.le_trans ?_ (Below.size (by assumption))))
          (try simp only [Act.put, List.setIfInBounds_toArray, List.set_cons_zero, List.set_cons_succ, List.nil_append, List.cons_append])
          refine chain_is (step_take (by rfl) ?yz8) ?rz8
          case yz8 =>
            intro w hbw hd
            clear hd
            go_simp
            first | done | with_reducible rfl | simp
          (try simp only [Act.put, List.setIfInBounds_toArray, List.set_cons_zero, List.set_cons_succ, List.nil_append, List.cons_append])
          refine chain_end (fun wz hbz hd => ?_)
          clear hd
          go_wp2_with fail
          go_roundw
          case rel => exact ⟨k + 1, by omega, by go_num, hbq.trans ((hb0.trans (hbz.mono hb0.size)).mono hbq.size)⟩
          case measure => simp [intOf]; omega
        · have k1 : ¬ ((k : Int) < 256) := by omega
          go_wp2
          go_ret
          exact ⟨rfl, B.out.trans ((B8.out.trans (hbq.mono B8.out.size)).mono B.out.size)⟩


set_option maxRecDepth 100000 in
theorem rmapForks_lifted (os : Os) (started : os.Started) (H : Type) (enc : TypeId × Value → H) :
    ReturnsInHanded {} Try.checked os 9 .any (Rows.rmapForksSpec.pre6 enc Try.prog Try.f9 Rows.rmapForksRow.domain false) (Rows.rmapForksSpec.post enc Try.prog Try.f9 false true false false) := by
  refine returnsInHanded_of_change (C := Try.checked) own started (by kernel_rfl) Try.func9
    (ChangeSpec.witness6 (enc := enc) (C := Try.checked) false ⟨#[], #[.slice none 0 0, .int .i64 0], []⟩ 8 (by kernel_rfl) (by kernel_rfl) (by kernel_rfl) (by kernel_rfl)) ?_
  intro W base args ds gs before hval0 hW hcnd _
  have hval : ∀ (j : Nat) t v, Try.f9.params[j]? = some t → args[j]? = some v → Value.okWide Try.prog W .any base t v := hval0
  have hW' := hW
  obtain ⟨p, q, hA0, hV, rfl, hfz, hnd⟩ := hW
  have hA : DataW.TrodAll enc Try.prog W 0 (fun _ => true) true Try.f9.params.toList args.toList ds p := hA0
  rw [Try.params9] at hA hval
  obtain ⟨v0, vs0, d0, ds0, p0, q0, hargs, rfl, rfl, h0, r0⟩ := trodAll_cons hA
  obtain ⟨v1, vs1, d1, ds1, p1, q1, rfl, rfl, rfl, h1, r1⟩ := trodAll_cons r0
  obtain ⟨rfl, rfl, rfl⟩ := trodAll_nil r1
  obtain rfl : args = #[v0, v1] := by cases args; simp_all
  obtain ⟨rfl, rfl⟩ := trodVars_none hV
  obtain ⟨A0, k0, a0, rfl, s0, w0, l0⟩ := open_slI Try.underlying35 Try.underlying3 (by kernel_rfl) (hval 0 35 v0 rfl rfl) h0
  obtain ⟨a1, rfl, rfl, rfl, w1⟩ := open_int Try.underlying3 (hval 1 3 v1 rfl rfl) h1
  clear hA0 hval0
  refine (rmapForks_walk A0 k0 a0 a1 W s0 w0 l0 w1).mono fun e W' ⟨he, hb⟩ => ⟨_, he, ?_⟩
  exact law_post laidOut (s := Rows.rmapForksSpec) (B := 4) rfl rfl Try.underlying4 (by decide +kernel) hW' rfl hb

theorem rmapForks_holds : Rows.RmapForksSaid :=
  OpenClaim.holds_of_wide 9 Try.f9 rfl rfl rfl rfl rfl rfl rfl ⟨rfl, rfl, rfl, rfl, rfl⟩ rfl rfl rfl rfl rfl (by kernel_rfl) Try.func9 (by kernel_rfl)
    (of_decide_eq_true (by kernel_rfl)) (by unfold Func.isWrapper; first | (rw [if_pos (by decide +kernel)]; kernel_rfl) | (rw [if_neg (by decide +kernel)]; exact ⟨rfl, rfl⟩))
    (fun os started H enc _ => rmapForks_lifted os started H enc)

end Go.Proofs.Ytbeddhamnefpiaa
