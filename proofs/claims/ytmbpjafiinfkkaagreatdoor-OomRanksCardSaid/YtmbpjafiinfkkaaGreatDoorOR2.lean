/- The reference's Score, Scores, in (34). No statement is proved here. -/
import Derived.Test.YtmbpjafiinfkkaaGreatDoorOP3
namespace Go.Proofs.YtmbpjafiinfkkaaGreatDoor
set_option linter.unusedSimpArgs false
set_option linter.unusedVariables false
open Go.RowKit Go.Maps

theorem pvC_cell {p : PV} {w : World} {b : Nat} {t : TypeId} (h : Blk w b t (pvC p).toArray) {i x : Nat} (hx : p.es[i]? = some x) : w.cell? ⟨b, 11 + i, none⟩ = some (.int .u64 (x : Int)) := by
  rw [h.cell_, List.getElem?_toArray]
  exact pvC_ent p hx

set_option maxRecDepth 100000 in
set_option maxHeartbeats 4000000 in
theorem rScore_any (p : PV) (w : World) : Calls Tryz.prog 21 #[pvV p] w fun e w' => e = .returned (.tuple #[.int .i64 (if scoE p.es = 0 then scoN p.es else 0), .int .i64 (scoE p.es)]) ∧ Below w.heap.size w w' := by
  obtain ⟨W1, hW1⟩ : ∃ W1, w.alloc (.cells (pvC p).toArray 41) = W1 := ⟨_, rfl⟩
  have B1 : Below w.heap.size w W1 := by rw [← hW1]; exact (by repeat' (first | with_reducible exact Below.refl _ _ | with_reducible assumption | with_reducible apply Below.drew | with_reducible apply below_drewN | with_reducible apply Below.alloc | with_reducible apply Below.setCell | (with_reducible refine Below.trans ?_ (Below.mono (by assumption) ?_)) | (simp; done) | (simp; omega) | omega | with_reducible apply le_size_alloc | with_reducible apply le_size_drewN | with_reducible apply le_size_drew | with_reducible apply le_size_setCell | refine Nat.le_trans ?_ (Below.size (by assumption))))
  have k1 : Blk W1 w.heap.size 41 (pvC p).toArray := by rw [← hW1]; exact (by repeat' (first | with_reducible assumption | (with_reducible refine Blk.new_ ?_ ?_ <;> first | (simp; done) | rfl) | with_reducible apply Blk.drew_ | with_reducible apply Blk.drewN_ | with_reducible apply Blk.alloc_ | with_reducible refine Blk.far_ ?_ ?_ _ | (with_reducible refine Blk.below_ ?_ (by assumption) ?_) | (simp; done) | (simp; omega) | omega | with_reducible apply le_size_alloc | with_reducible apply lt_size_alloc | with_reducible apply le_size_drewN | with_reducible apply le_size_drew | with_reducible apply le_size_setCell | refine Nat.lt_of_lt_of_le ?_ (Below.size (by assumption)) | refine Nat.le_trans ?_ (Below.size (by assumption))))
  have z1 : w.heap.size < W1.heap.size := k1.lt
  have hC : ∀ (i x : Nat), p.es[i]? = some x → W1.cell? ⟨w.heap.size, 11 + i, none⟩ = some (.int .u64 (x : Int)) := fun i x hx => pvC_cell k1 hx
  obtain ⟨es, hes⟩ : ∃ es, p.es = es := ⟨_, rfl⟩
  have hlen : es.length = 64 := by rw [← hes]; exact p.he
  have hw64 : ∀ x ∈ es, x < 18446744073709551616 := by rw [← hes]; exact p.hw
  rw [hes] at hC ⊢
  obtain ⟨z, hz⟩ : ∃ z, scoE es = z := ⟨_, rfl⟩
  rw [hz]
  have HZ : Hid (fstNZ (es.map unpE) = z) := hz
  have HL := Lib.hid hlen
  have HW := Lib.hid hw64
  have HC := Lib.hid hC
  clear hz hlen hw64 hC k1 hes
  unfold pvV
  go_enter Tryz.func21, Tryz.ntmps21
  go_wp2
  go_loopw [5, 4] (fun i s wr => ∃ (k : Nat), k ≤ 64 ∧ i = .int .i64 k ∧ s = .int .i64 (scoN (es.take k)) ∧ Hid (∀ y ∈ (es.map unpE).take k, y = 0) ∧ Below W1.heap.size W1 wr) (fun i _ _ => 64 - (intOf i).toNat)
  case atStart => exact ⟨0, by omega, rfl, by simp [scoN], by show ∀ y ∈ _, _; simp, Below.refl _ _⟩
  case round =>
    obtain ⟨k, hk, rfl, rfl, HR, hbw⟩ := hrel
    have zw := hbw.size
    by_cases hlt : k < 64
    · obtain ⟨x, hx⟩ : ∃ x, es[k]? = some x := ⟨_, List.getElem?_eq_getElem (by rw [HL.out]; exact hlt)⟩
      have i1 : (k : Int) < 64 := by omega
      have hc := cell_keep hbw (HC.out k x hx) z1
      have hx64 := HW.out x (List.mem_of_getElem? hx)
      have hxe : (es.map unpE)[k]? = some (unpE x) := by rw [List.getElem?_map, hx]; rfl
      have hbn := scoN_le (es.take k)
      have hbl2 : (es.take k).length ≤ 64 := by rw [List.length_take]; omega
      have hsn := scoN_snoc (es.take k) x
      rw [← take_snocG hx] at hsn
      have hsx : scoN (es.take k) ≤ 64 := by omega
      have hs0 := hbn.1
      have HT := Lib.hid hsn
      by_cases e0 : unpE x = 0
      · have hu : ∀ w, Calls Tryz.prog 49 #[.int .u64 (x : Int)] w fun e w' => e = .returned (.tuple #[.agg #[.int .i64 (eK x), .int .i64 (eN x), .bool (eA x), .bool (eB x), .bool (eC x)], .int .i64 0]) ∧ Below w.heap.size w w' := fun w => by
          have := rUnpack_any x w hx64
          unfold unpV entV at this
          rw [e0, if_pos rfl] at this
          exact this
        have HN : Hid (∀ y ∈ (es.map unpE).take (k + 1), y = 0) := take_zero HR.out (by rw [hxe, e0])
        clear hsn hbl2 hbn hx hxe e0 HR
        generalize scoN (es.take k) = sv at *
        by_cases h0 : x % 4 = 0
        · have HT2 : Hid (scoN (es.take (k + 1)) = sv) := by have := HT.out; rw [if_neg (by omega)] at this; show _ = _; omega
          have hb : (eK x != 0) = false := by simp [eK]; omega
          clear HT
          go_wp2_with (go_at_call 49; refine (hu _).mono ?_; rintro e w1 ⟨rfl, hb1⟩; have hz1 := hb1.size)
          go_roundw
          case rel => exact ⟨k + 1, by omega, by go_num, by rw [HT2.out], HN.out, (by repeat' (first | with_reducible exact Below.refl _ _ | with_reducible assumption | with_reducible apply Below.drew | with_reducible apply below_drewN | with_reducible apply Below.alloc | with_reducible apply Below.setCell | (with_reducible refine Below.trans ?_ (Below.mono (by assumption) ?_)) | (simp; done) | (simp; omega) | omega | with_reducible apply le_size_alloc | with_reducible apply le_size_drewN | with_reducible apply le_size_drew | with_reducible apply le_size_setCell | refine Nat.le_trans ?_ (Below.size (by assumption))))⟩
          case measure => simp [intOf]; omega
        · have HT2 : Hid (scoN (es.take (k + 1)) = sv + 1) := by have := HT.out; rw [if_pos h0] at this; exact this
          have hb : (eK x != 0) = true := by simp [eK]; omega
          clear HT
          go_wp2_with (go_at_call 49; refine (hu _).mono ?_; rintro e w1 ⟨rfl, hb1⟩; have hz1 := hb1.size)
          go_roundw
          case rel => exact ⟨k + 1, by omega, by go_num, by rw [HT2.out], HN.out, (by repeat' (first | with_reducible exact Below.refl _ _ | with_reducible assumption | with_reducible apply Below.drew | with_reducible apply below_drewN | with_reducible apply Below.alloc | with_reducible apply Below.setCell | (with_reducible refine Below.trans ?_ (Below.mono (by assumption) ?_)) | (simp; done) | (simp; omega) | omega | with_reducible apply le_size_alloc | with_reducible apply le_size_drewN | with_reducible apply le_size_drew | with_reducible apply le_size_setCell | refine Nat.le_trans ?_ (Below.size (by assumption))))⟩
          case measure => simp [intOf]; omega
      · have hu : ∀ w, Calls Tryz.prog 49 #[.int .u64 (x : Int)] w fun e w' => e = .returned (.tuple #[.agg #[.int .i64 0, .int .i64 0, .bool false, .bool false, .bool false], .int .i64 (unpE x)]) ∧ Below w.heap.size w w' := fun w => by
          have := rUnpack_any x w hx64
          unfold unpV entV at this
          rw [if_neg e0] at this
          exact this
        have hzu : z = unpE x := by rw [← HZ.out]; exact fstNZ_at HR.out hxe e0
        clear hsn hbl2 hbn hx hxe HT HR
        generalize scoN (es.take k) = sv at *
        generalize unpE x = u at *
        subst hzu
        have hub : (z != 0) = true := by simpa using e0
        have HE : Hid (z ≠ 0) := e0
        clear e0
        go_wp2_with (go_at_call 49; refine (hu _).mono ?_; rintro e w1 ⟨rfl, hb1⟩; have hz1 := hb1.size)
        refine bodyPost_ret (v := .tuple #[.int .i64 0, .int .i64 z]) (by simp [results, Tryz.results21, go_sem]) rfl ?_
        exact ⟨by first | rfl | rw [if_neg HE.out], B1.trans ((show Below W1.heap.size W1 _ from (by repeat' (first | with_reducible exact Below.refl _ _ | with_reducible assumption | with_reducible apply Below.drew | with_reducible apply below_drewN | with_reducible apply Below.alloc | with_reducible apply Below.setCell | (with_reducible refine Below.trans ?_ (Below.mono (by assumption) ?_)) | (simp; done) | (simp; omega) | omega | with_reducible apply le_size_alloc | with_reducible apply le_size_drewN | with_reducible apply le_size_drew | with_reducible apply le_size_setCell | refine Nat.le_trans ?_ (Below.size (by assumption))))).mono B1.size)⟩
    · obtain rfl : k = 64 := by omega
      have hzz : z = 0 := by
        rw [← HZ.out]
        have := HR.out
        rw [List.take_of_length_le (by rw [List.length_map, HL.out]; omega)] at this
        exact fstNZ_all this
      have hT : es.take 64 = es := List.take_of_length_le (by rw [HL.out]; omega)
      rw [hT]
      subst hzz
      clear HR hlt hT
      go_wp2
      refine bodyPost_ret (v := .tuple #[.int .i64 (scoN es), .int .i64 0]) (by simp [results, Tryz.results21, go_sem]) rfl ?_
      exact ⟨rfl, B1.trans ((show Below W1.heap.size W1 _ from (by repeat' (first | with_reducible exact Below.refl _ _ | with_reducible assumption | with_reducible apply Below.drew | with_reducible apply below_drewN | with_reducible apply Below.alloc | with_reducible apply Below.setCell | (with_reducible refine Below.trans ?_ (Below.mono (by assumption) ?_)) | (simp; done) | (simp; omega) | omega | with_reducible apply le_size_alloc | with_reducible apply le_size_drewN | with_reducible apply le_size_drew | with_reducible apply le_size_setCell | refine Nat.le_trans ?_ (Below.size (by assumption))))).mono B1.size)⟩

set_option maxRecDepth 100000 in
set_option maxHeartbeats 2000000 in
theorem rin_any (A : Option Addr) (c : Nat) (xs : List Int) (n : Int) (w : World) (hs : Sl w (.int .i64) A xs) (hl : xs.length ≤ 1000) : Calls Tryz.prog 47 #[.slice A xs.length c, .int .i64 n] w fun e w' => e = .returned (.bool (decide (n ∈ xs))) ∧ Below w.heap.size w w' := by
  obtain ⟨z, hz⟩ : ∃ z, decide (n ∈ xs) = z := ⟨_, rfl⟩
  rw [hz]
  have HZ := Lib.hid hz
  have HS := Lib.hid hs
  clear hz hs
  go_enter Tryz.func47, Tryz.ntmps47
  go_wp2
  go_loopw [5] (fun i wr => ∃ k : Nat, k ≤ xs.length ∧ i = .int .i64 k ∧ Hid (n ∉ xs.take k) ∧ Below w.heap.size w wr) (fun i _ => xs.length - (intOf i).toNat)
  case atStart => exact ⟨0, by omega, rfl, by show _ ∉ _; simp, Below.refl _ _⟩
  case round =>
    obtain ⟨k, hk, rfl, HR, hbw⟩ := hrel
    by_cases hlt : k < xs.length
    · obtain ⟨b, off, x, rfl, hbl, hx, hc⟩ := (HS.out.ext hbw).at_ hlt
      have i1 : (k : Int) < xs.length := by omega
      by_cases h1 : x = n
      · have hzz : z = true := by rw [← HZ.out]; exact decide_eq_true (by rw [← h1]; exact List.mem_of_getElem? hx)
        have hb : (x == n) = true := by simpa using h1
        subst hzz
        clear hx HR h1
        go_wp2
        refine bodyPost_ret (v := .bool true) (by simp [results, Tryz.results47, go_sem]) rfl ?_
        exact ⟨rfl, (by repeat' (first | with_reducible exact Below.refl _ _ | with_reducible assumption | with_reducible apply Below.drew | with_reducible apply below_drewN | with_reducible apply Below.alloc | with_reducible apply Below.setCell | (with_reducible refine Below.trans ?_ (Below.mono (by assumption) ?_)) | (simp; done) | (simp; omega) | omega | with_reducible apply le_size_alloc | with_reducible apply le_size_drewN | with_reducible apply le_size_drew | with_reducible apply le_size_setCell | refine Nat.le_trans ?_ (Below.size (by assumption))))⟩
      · have HR2 : Hid (n ∉ xs.take (k + 1)) := by
          show _ ∉ _
          rw [take_snocG hx, List.mem_append, List.mem_singleton]
          rintro (h | h)
          · exact HR.out h
          · exact h1 h.symm
        have hb : (x == n) = false := by simpa using h1
        clear hx HR h1
        go_wp2
        go_roundw
        case rel => exact ⟨k + 1, by omega, by go_num, HR2.out, (by repeat' (first | with_reducible exact Below.refl _ _ | with_reducible assumption | with_reducible apply Below.drew | with_reducible apply below_drewN | with_reducible apply Below.alloc | with_reducible apply Below.setCell | (with_reducible refine Below.trans ?_ (Below.mono (by assumption) ?_)) | (simp; done) | (simp; omega) | omega | with_reducible apply le_size_alloc | with_reducible apply le_size_drewN | with_reducible apply le_size_drew | with_reducible apply le_size_setCell | refine Nat.le_trans ?_ (Below.size (by assumption))))⟩
        case measure => simp [intOf]; omega
    · obtain rfl : k = xs.length := by omega
      have hzz : z = false := by rw [← HZ.out]; have := HR.out; rw [List.take_length] at this; exact decide_eq_false this
      subst hzz
      clear HR hlt
      go_wp2
      refine bodyPost_ret (v := .bool false) (by simp [results, Tryz.results47, go_sem]) rfl ?_
      exact ⟨rfl, (by repeat' (first | with_reducible exact Below.refl _ _ | with_reducible assumption | with_reducible apply Below.drew | with_reducible apply below_drewN | with_reducible apply Below.alloc | with_reducible apply Below.setCell | (with_reducible refine Below.trans ?_ (Below.mono (by assumption) ?_)) | (simp; done) | (simp; omega) | omega | with_reducible apply le_size_alloc | with_reducible apply le_size_drewN | with_reducible apply le_size_drew | with_reducible apply le_size_setCell | refine Nat.le_trans ?_ (Below.size (by assumption))))⟩

set_option maxRecDepth 100000 in
set_option maxHeartbeats 8000000 in
theorem rScores_any (A : Option Addr) (c : Nat) (l : List PV) (w : World) (hs : SR procE w A l) (ll : l.length ≤ 1000) : Calls Tryz.prog 14 #[.slice A l.length c] w (ScrPost l w) := by
  by_cases h1 : l.length < 1 ∨ 8 < l.length
  · have e : scrE l = 2 := if_pos h1
    have HP : ∀ e w', e = .returned (.tuple #[.slice none 0 0, .int .i64 2]) → Below w.heap.size w w' → ScrPost l w e w' := fun e' w' he hb => by
      unfold ScrPost
      rw [e]
      exact ⟨⟨none, 0, he, fun h => by simp at h⟩, hb⟩
    clear e
    rcases h1 with h1 | h1
    all_goals
      go_enter Tryz.func14, Tryz.ntmps14
      go_wp2
      refine bodyPost_ret (v := .tuple #[.slice none 0 0, .int .i64 2]) (by simp [results, Tryz.results14, go_sem]) rfl ?_
      exact HP _ _ rfl (by repeat' (first | with_reducible exact Below.refl _ _ | with_reducible assumption | with_reducible apply Below.drew | with_reducible apply below_drewN | with_reducible apply Below.alloc | with_reducible apply Below.setCell | (with_reducible refine Below.trans ?_ (Below.mono (by assumption) ?_)) | (simp; done) | (simp; omega) | omega | with_reducible apply le_size_alloc | with_reducible apply le_size_drewN | with_reducible apply le_size_drew | with_reducible apply le_size_setCell | refine Nat.le_trans ?_ (Below.size (by assumption))))
  · have e : scrE l = scsE l := if_neg h1
    obtain ⟨n1, n8⟩ : 1 ≤ l.length ∧ l.length ≤ 8 := by omega
    obtain ⟨z, hz⟩ : ∃ z, scsE l = z := ⟨_, rfl⟩
    have HP : ∀ e w', ((∃ A c, e = .returned (.tuple #[.slice A (if z = 0 then l.length else 0) c, .int .i64 z]) ∧ (z = 0 → Sl w' (.int .i64) A (scsL l))) ∧ Below w.heap.size w w') → ScrPost l w e w' := fun e' w' h => by
      unfold ScrPost
      rw [e, hz]
      exact h
    have HZ : Hid (fstNZ (l.map (fun p => scoE p.es)) = z) := hz
    have HS := Lib.hid hs
    clear hz hs e h1
    go_enter Tryz.func14, Tryz.ntmps14
    go_wp2
    go_loopw [5, 4] (fun i s wr => ∃ (k : Nat) (A : Option Addr) (c : Nat), k ≤ l.length ∧ i = .int .i64 k ∧ s = .slice A k c ∧ Hid (OwnR intE wr w.heap.size (.slice A k c) (scsL (l.take k))) ∧ Hid (∀ y ∈ (l.map (fun p => scoE p.es)).take k, y = 0) ∧ Below w.heap.size w wr) (fun i _ _ => l.length - (intOf i).toNat)
    case atStart => exact ⟨0, none, 0, by omega, rfl, rfl, OwnR.nil, by show ∀ y ∈ _, _; simp, Below.refl _ _⟩
    case round =>
      obtain ⟨k, A3, c3, hk, rfl, rfl, HO, HR, hbw⟩ := hrel
      have zw := hbw.size
      by_cases hlt : k < l.length
      · obtain ⟨b, off, x, rfl, hbl, hx, hR⟩ := proc_at (HS.out.ext hbw) hlt
        have i1 : (k : Int) < l.length := by omega
        have hxe : (l.map (fun p => scoE p.es))[k]? = some (scoE x.es) := by rw [List.getElem?_map, hx]; rfl
        have hSc := rScore_any x
        unfold pvV at hSc
        by_cases e0 : scoE x.es = 0
        · have HN : Hid (∀ y ∈ (l.map (fun p => scoE p.es)).take (k + 1), y = 0) := take_zero HR.out (by rw [hxe, e0])
          rw [e0, if_pos rfl] at hSc
          have hl0 : (scsL (l.take k)).length = k := by unfold scsL; rw [List.length_map, List.length_take]; omega
          have hl1 : scsL (l.take k) ++ [scoN x.es] = scsL (l.take (k + 1)) := by unfold scsL; rw [take_snocG hx, List.map_append]; rfl
          have hl2 : (scsL (l.take (k + 1))).length = k + 1 := by unfold scsL; rw [List.length_map, List.length_take]; omega
          have hO : OwnR intE wr w.heap.size (.slice A3 (scsL (l.take k)).length c3) (scsL (l.take k)) := by rw [hl0]; exact HO.out
          generalize scsL (l.take k) = l0 at hl0 hl1 hO
          obtain ⟨l', hl'⟩ : ∃ l', scsL (l.take (k + 1)) = l' := ⟨_, rfl⟩
          rw [hl'] at hl1 hl2
          have HLL := Lib.hid hl'
          have H0 := Lib.hid hl0; have H1 := Lib.hid hl1; have H2 := Lib.hid hl2; have HOO := Lib.hid hO
          generalize scoN x.es = sx at *
          clear hl' hx hxe HO HR e0 hl0 hl1 hl2 hO
          go_wp2_with (first
            | (refine wpList_load_mid rfl 41 _ rfl b (off + k * 75) rfl (pvC x) _ hR Tryz.underlying41 rfl (sz75 x) ?_)
            | (go_at_call 21; refine (hSc _).mono ?_; rintro e w1 ⟨rfl, hb1⟩; have zz1 := hb1.size)
            | (at_builtin; refine wpList_ownR intE rfl (.tmp 33) (.tmp 35) _ rfl rfl _ w.heap.size (by simp; omega) A3 c3 k l0 H0.out.symm (HOO.out.ext (by repeat' (first | with_reducible exact Below.refl _ _ | with_reducible assumption | with_reducible apply Below.drew | with_reducible apply below_drewN | with_reducible apply Below.alloc | with_reducible apply Below.setCell | (with_reducible refine Below.trans ?_ (Below.mono (by assumption) ?_)) | (simp; done) | (simp; omega) | omega | with_reducible apply le_size_alloc | with_reducible apply le_size_drewN | with_reducible apply le_size_drew | with_reducible apply le_size_setCell | refine Nat.le_trans ?_ (Below.size (by assumption))))) (some ⟨w1.heap.size, 0, none⟩) 1 1 [sx] rfl (SR.of_blk (E := intE) (l := [sx]) (t := 3) (Blk.new_ (by simp) rfl)) (by simp) (by simp; have := H0.out; omega) rfl rfl ?_; rw [H1.out]; intro A5 c5 w5 hO5 hb5 hg5; rw [H2.out] at hO5 ⊢))
          go_roundw
          case rel => exact ⟨k + 1, A5, c5, by omega, by go_num, rfl, by rw [HLL.out]; exact hO5, HN.out, (by repeat' (first | with_reducible exact Below.refl _ _ | with_reducible assumption | with_reducible apply Below.drew | with_reducible apply below_drewN | with_reducible apply Below.alloc | with_reducible apply Below.setCell | (with_reducible refine Below.trans ?_ (Below.mono (by assumption) ?_)) | (simp; done) | (simp; omega) | omega | with_reducible apply le_size_alloc | with_reducible apply le_size_drewN | with_reducible apply le_size_drew | with_reducible apply le_size_setCell | refine Nat.le_trans ?_ (Below.size (by assumption))))⟩
          case measure => simp [intOf]; omega
        · have hzu : z = scoE x.es := by rw [← HZ.out]; exact fstNZ_at HR.out hxe e0
          rw [if_neg e0] at hSc
          generalize scoE x.es = u at *
          subst hzu
          have hub : (z != 0) = true := by simpa using e0
          have HE : Hid (z ≠ 0) := e0
          clear hxe hx e0 HR HO
          go_wp2_with (first
            | (refine wpList_load_mid rfl 41 _ rfl b (off + k * 75) rfl (pvC x) _ hR Tryz.underlying41 rfl (sz75 x) ?_)
            | (go_at_call 21; refine (hSc _).mono ?_; rintro e w1 ⟨rfl, hb1⟩))
          refine bodyPost_ret (v := .tuple #[.slice none 0 0, .int .i64 z]) (by simp [results, Tryz.results14, go_sem]) rfl ?_
          exact HP _ _ ⟨⟨none, 0, by rw [if_neg HE.out], fun h => absurd h HE.out⟩, (by repeat' (first | with_reducible exact Below.refl _ _ | with_reducible assumption | with_reducible apply Below.drew | with_reducible apply below_drewN | with_reducible apply Below.alloc | with_reducible apply Below.setCell | (with_reducible refine Below.trans ?_ (Below.mono (by assumption) ?_)) | (simp; done) | (simp; omega) | omega | with_reducible apply le_size_alloc | with_reducible apply le_size_drewN | with_reducible apply le_size_drew | with_reducible apply le_size_setCell | refine Nat.le_trans ?_ (Below.size (by assumption))))⟩
      · obtain rfl : k = l.length := by omega
        have hzz : z = 0 := by
          rw [← HZ.out]
          have := HR.out
          rw [List.take_of_length_le (by simp)] at this
          exact fstNZ_all this
        subst hzz
        have hO := HO.out
        rw [List.take_length] at hO
        have HOO := Lib.hid hO
        clear hO HO HR hlt
        go_wp2
        refine bodyPost_ret (v := .tuple #[.slice A3 l.length c3, .int .i64 0]) (by simp [results, Tryz.results14, go_sem]) rfl ?_
        exact HP _ _ ⟨⟨A3, c3, by simp, fun _ => (OwnR.sr HOO.out).2.sl⟩, (by repeat' (first | with_reducible exact Below.refl _ _ | with_reducible assumption | with_reducible apply Below.drew | with_reducible apply below_drewN | with_reducible apply Below.alloc | with_reducible apply Below.setCell | (with_reducible refine Below.trans ?_ (Below.mono (by assumption) ?_)) | (simp; done) | (simp; omega) | omega | with_reducible apply le_size_alloc | with_reducible apply le_size_drewN | with_reducible apply le_size_drew | with_reducible apply le_size_setCell | refine Nat.le_trans ?_ (Below.size (by assumption))))⟩
end Go.Proofs.YtmbpjafiinfkkaaGreatDoor
