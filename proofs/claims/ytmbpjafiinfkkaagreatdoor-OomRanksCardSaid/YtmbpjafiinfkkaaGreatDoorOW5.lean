/- headgatelaw34.made: what it hands back is valid. No statement is proved here. -/
import Derived.Test.YtmbpjafiinfkkaaGreatDoorMwA
import Derived.Test.YtmbpjafiinfkkaaGreatDoorKitN
namespace Go.Proofs.YtmbpjafiinfkkaaGreatDoor
set_option linter.unusedSimpArgs false
set_option linter.unusedVariables false
open Go.RowKit Go.Maps

/-- A whole struct stored in a block just made: the world named. -/
theorem wpList_store_newV {P : Program} {ops : Array Oper} {rest : List Oper} {op : Oper} {a : Act} {Q : Exit → Act → World → Prop} (w : World) (hgd : op.guard = none) (ty : TypeId) (x y : Operand) (ho : op.op = .store ty x y) (c c' : Array Value)
    (hx : a.eval x = .pointer (some ⟨w.heap.size, 0, none⟩)) (hy : a.eval y = .agg c') (hi : (P.info? ty).map (·.size) = some c'.size) (hsz : c.size = c'.size) (h1 : c'.all (·.oneCell') = true)
    (h : ∀ w', Blk w' w.heap.size ty c' → Below w.heap.size w w' → w.heap.size < w'.heap.size → wpList P ops Q rest (a.put op.dst undef) w') : wpList P ops Q (op :: rest) a (w.alloc (.cells c ty)) :=
  wpList_store_newN w w.heap.size rfl hgd ty x y ho c c' hx hy hi hsz h1 (h _ (Blk.new_ rfl rfl) ((Below.refl _ _).alloc (Nat.le_refl _) _) (by simp))
theorem mod_ex (n : Int) (m : Nat) (w : World) (h1 : 1 ≤ m) (h2 : m ≤ 1152921504606846976) :
    Calls Tryz.prog 36 #[.int .i64 n, .int .i64 m] w fun e w' => ∃ d : Nat, d < m ∧ e = .returned (.int .i64 d) ∧ w = w' :=
  (Mod_any n m w (by omega) (by omega)).mono fun e w' h => by
    have a := Int.emod_nonneg n (show (m : Int) ≠ 0 by omega)
    have b := Int.emod_lt_of_pos n (show (0 : Int) < m by omega)
    exact ⟨(n % m).toNat, by omega, by rw [h.1, show (((n % m).toNat : Nat) : Int) = n % m by omega], h.2⟩
theorem at_ex (A : Option Addr) (c : Nat) (xs : List Int) (i : Int) (w : World) (h : Sl w (.int .i64) A xs) (hn : xs.length ≤ 9223372036854775807) :
    Calls Tryz.prog 60 #[.slice A xs.length c, .int .i64 i] w fun e w' => ∃ x : Int, e = .returned (.int .i64 x) ∧ w = w' :=
  (At_any A c xs i w h hn).mono fun e w' h => ⟨_, h.1, h.2⟩
theorem pack_parts (k n : Nat) (a b c : Bool) (hk : k < 4) (hn : n < 256) : eK (packN k n a b c) = k ∧ eN (packN k n a b c) = n ∧ eA (packN k n a b c) = a ∧ eB (packN k n a b c) = b ∧ eC (packN k n a b c) = c := by
  unfold eK eN eA eB eC packN flgT
  cases a <;> cases b <;> cases c <;> simp <;> omega
theorem unp_pack {k n : Nat} {a b c : Bool} (h : chkE k n a b c = 0) : unpE (packN k n a b c) = 0 := by
  have hk : k < 3 := by
    rcases Nat.lt_or_ge k 3 with h' | h'
    · exact h'
    · unfold chkE at h; rw [if_pos (by omega)] at h; simp at h
  have hn : n < 256 := by
    rcases Nat.lt_or_ge n 256 with h' | h'
    · exact h'
    · unfold chkE at h
      split at h
      · simp at h
      · rw [if_pos (by omega)] at h; simp at h
  obtain ⟨e1, e2, e3, e4, e5⟩ := pack_parts k n a b c (by omega) hn
  have hf := flgT_lt a b c
  unfold unpE
  rw [e1, e2, e3, e4, e5, h, if_neg (by unfold packN; omega), if_neg (by unfold packN; omega)]
theorem pack_made (q : Nat) (n : Int) (hn : 0 ≤ n ∧ n < 12) (h0 : (q : Int) % 3 = 0 → n = 0) (w : World) (hal : AL w) : Calls Tryz.prog 56 #[.agg #[.int .i64 ((q : Int) % 3), .int .i64 n, .bool false, .bool ((q : Int) % 3 == 1), .bool false]] w fun e w' => ∃ W : Nat, unpE W = 0 ∧ W < 65536 ∧ e = .returned (.tuple #[.int .u64 W, .int .i64 0]) ∧ Below w.heap.size w w' := by
  obtain ⟨m, rfl⟩ : ∃ m : Nat, n = m := ⟨n.toNat, by omega⟩
  have hc : chkE ((q % 3 : Nat) : Int) m false ((q : Int) % 3 == 1) false = 0 := by
    unfold chkE
    rcases (by omega : q % 3 = 0 ∨ q % 3 = 1 ∨ q % 3 = 2) with h | h | h
    · have e1 : ((q : Int) % 3 == 1) = false := by simp; omega
      have e2 : m = 0 := by have := h0 (by omega); omega
      rw [h, e1, e2]; simp
    · have e1 : ((q : Int) % 3 == 1) = true := by simp; omega
      rw [h, e1]; simp; omega
    · have e1 : ((q : Int) % 3 == 1) = false := by simp; omega
      rw [h, e1]; simp; omega
  have hP := Pack_any (q % 3) m false ((q : Int) % 3 == 1) false w hal hc
  unfold entV at hP
  rw [show ((q % 3 : Nat) : Int) = (q : Int) % 3 by omega] at hP
  exact hP.mono fun e w' h => ⟨_, unp_pack hc, packN_lt hc, h.1, h.2⟩
/-- A process whose entries are valid, with a root. -/
def PVOk (p : PV) : Prop := (∀ x ∈ p.es, unpE x = 0) ∧ p.root ≠ -1
theorem PVOk.sco {p : PV} (h : PVOk p) : scoE p.es = 0 := fstNZ_all fun y hy => by
  obtain ⟨x, hx, rfl⟩ := List.mem_map.1 hy
  exact h.1 x hx
theorem PVOk.setE {p : PV} (h : PVOk p) {i x : Nat} (hx : unpE x = 0) (hl : x < 65536) : PVOk (p.setE i x) := by
  refine ⟨fun y hy => ?_, h.2⟩
  rcases List.mem_or_eq_of_mem_set (show y ∈ p.es.set i (x % 18446744073709551616) from hy) with h1 | h1
  · exact h.1 y h1
  · rw [h1, Nat.mod_eq_of_lt (by omega)]; exact hx
theorem PVOk.setL {p : PV} (h : PVOk p) {i : Nat} {n : Int} : PVOk (p.setL i n) := ⟨h.1, h.2⟩
theorem pv0_ok {s r : Int} (h : r ≠ -1) : PVOk { pv0 with st := s, root := r } := ⟨fun x hx => by rw [List.eq_of_mem_replicate (show x ∈ List.replicate 64 0 from hx)]; decide, h⟩
theorem Blk.setL {p : PV} {w : World} {b : Nat} {t : TypeId} (h : Blk w b t (pvC p).toArray) {i : Nat} {n : Int} (hi : i < 8) : Blk (w.setCell ⟨b, 2 + i, none⟩ (.int .i64 n)) b t (pvC (p.setL i n)).toArray := by
  rw [← setL_cells p hi]
  exact h.set_ _ _

set_option maxRecDepth 100000 in
set_option maxHeartbeats 16000000 in
theorem made_any (A : Option Addr) (c : Nat) (nums : List Int) (w : World) (hal : AL w) (hs : Sl w (.int .i64) A nums) (hl : nums.length ≤ 9223372036854775807) :
    Calls Tryz.prog 35 #[.slice A nums.length c] w fun e w' => (∃ B d l, e = .returned (.slice B l.length d) ∧ OwnR procE w' w.heap.size (.slice B l.length d) l ∧ 1 ≤ l.length ∧ l.length ≤ 8 ∧ ∀ p ∈ l, PVOk p) ∧ Below w.heap.size w w' := by
  have HS := Lib.hid hs
  have HAL := Lib.hid hal
  have hat := fun i w' (hb : Below w.heap.size w w') => at_ex A c nums i w' (HS.out.ext hb) hl
  generalize nums.length = nl at *
  clear hs hal
  go_enter Tryz.func35, Tryz.ntmps35
  go_wp2_with (first
    | (go_at_call 60; refine (hat _ _ (by repeat' (first | with_reducible exact Below.refl _ _ | with_reducible assumption | with_reducible apply Below.drew | with_reducible apply below_drewN | with_reducible apply Below.alloc | with_reducible apply Below.setCell | (with_reducible refine Below.trans ?_ (Below.mono (by assumption) ?_)) | (simp; done) | (simp; omega) | omega | with_reducible apply le_size_alloc | with_reducible apply le_size_drewN | with_reducible apply le_size_drew | with_reducible apply le_size_setCell | refine Nat.le_trans ?_ (Below.size (by assumption))))).mono ?_; rintro e w1 ⟨x, rfl, rfl⟩)
    | (go_at_call 36; refine (mod_ex _ 8 _ (by omega) (by omega)).mono ?_; rintro e w2 ⟨d, hd, rfl, rfl⟩))
  obtain ⟨N, hN⟩ : ∃ N : Nat, 1 + d = N := ⟨_, rfl⟩
  have hN1 : (1 : Int) + (d : Int) = (N : Int) := by omega
  have N1 : 1 ≤ N := by omega
  have N8 : N ≤ 8 := by omega
  rw [hN1]
  clear hN hN1 hd
  go_loopw [5, 3] (fun i o wr => ∃ (k : Nat) (A : Option Addr) (c : Nat) (l : List PV), k ≤ N ∧ i = .int .i64 k ∧ o = .slice A k c ∧ Hid (l.length = k) ∧ Hid (OwnR procE wr w.heap.size (.slice A k c) l) ∧ Hid (∀ p ∈ l, PVOk p) ∧ Below w.heap.size w wr) (fun i _ _ => N - (intOf i).toNat)
  case atStart => exact ⟨0, none, 0, [], by omega, rfl, rfl, rfl, OwnR.nil, by show ∀ p ∈ _, _; simp, Below.refl _ _⟩
  case round =>
    obtain ⟨k, A3, c3, l, hk, rfl, rfl, HLk, HO, HPV, hbr⟩ := hrel
    obtain ⟨wo, rfl⟩ : ∃ wo, wo = wr := ⟨_, rfl⟩
    have zwo := hbr.size
    by_cases hlt : k < N
    · have i1 : (k : Int) < N := by omega
      go_wp2_with (first
        | (go_at_call 60; refine (hat _ _ (by repeat' (first | with_reducible exact Below.refl _ _ | with_reducible assumption | with_reducible apply Below.drew | with_reducible apply below_drewN | with_reducible apply Below.alloc | with_reducible apply Below.setCell | (with_reducible refine Below.trans ?_ (Below.mono (by assumption) ?_)) | (simp; done) | (simp; omega) | omega | with_reducible apply le_size_alloc | with_reducible apply le_size_drewN | with_reducible apply le_size_drew | with_reducible apply le_size_setCell | refine Nat.le_trans ?_ (Below.size (by assumption))))).mono ?_; rintro e w1 ⟨x1, rfl, rfl⟩)
        | (go_at_call 36; refine (mod_ex _ 1048576 _ (by omega) (by omega)).mono ?_; rintro e w2 ⟨q, hq, rfl, rfl⟩)
        | (go_at_call 29; refine (proc_none _ (HAL.out.ext (by repeat' (first | with_reducible exact Below.refl _ _ | with_reducible assumption | with_reducible apply Below.drew | with_reducible apply below_drewN | with_reducible apply Below.alloc | with_reducible apply Below.setCell | (with_reducible refine Below.trans ?_ (Below.mono (by assumption) ?_)) | (simp; done) | (simp; omega) | omega | with_reducible apply le_size_alloc | with_reducible apply le_size_drewN | with_reducible apply le_size_drew | with_reducible apply le_size_setCell | refine Nat.le_trans ?_ (Below.size (by assumption)))))).mono ?_; rintro e w3 ⟨rfl, hb3⟩)
        | (refine wpList_store_newV _ rfl 41 _ _ rfl _ _ rfl rfl (sz75' pv0) (by rw [zc75]; exact size75 pv0) (all75 pv0) ?_; intro V kV bV zV; have v0 : V.cell? ⟨w3.heap.size, 0, none⟩ = some (.int .i64 1) := (kV.cell_ 0).trans rfl; have v1 : V.cell? ⟨w3.heap.size, 1, none⟩ = some (.int .i64 0) := (kV.cell_ 1).trans rfl; have f0 := kV.frozen_ 0; have f1 := kV.frozen_ 1))
      obtain ⟨J, hJ⟩ : ∃ J : Nat, q / 3 % 20 = J := ⟨_, rfl⟩
      have J20 : J < 20 := by omega
      have eJ : ((q : Int).tdiv 3).tmod 20 = (J : Int) := by
        rw [Int.tdiv_eq_ediv_of_nonneg (by omega), Int.tmod_eq_emod_of_nonneg (by omega)]; omega
      have eJ2 : (q : Int) / 3 % 20 = (J : Int) := by omega
      obtain ⟨p0, hp0⟩ : ∃ p0 : PV, p0 = { pv0 with st := (q : Int) % 3, root := 100 + 10 * (k : Int) } := ⟨_, rfl⟩
      have hok0 : PVOk p0 := by rw [hp0]; exact pv0_ok (by omega)
      have kV2 : Blk ((V.setCell ⟨w3.heap.size, 0, none⟩ (.int .i64 ((q : Int) % 3))).setCell ⟨w3.heap.size, 1, none⟩ (.int .i64 (100 + 10 * (k : Int)))) w3.heap.size 41 (pvC p0).toArray := by
        have := (kV.set_ 0 (.int .i64 ((q : Int) % 3))).set_ 1 (.int .i64 (100 + 10 * (k : Int)))
        rw [setS_cells, setR_cells] at this
        rw [hp0]
        exact this
      have b3 : Below wo.heap.size wo w3 := (by repeat' (first | with_reducible exact Below.refl _ _ | with_reducible assumption | with_reducible apply Below.drew | with_reducible apply below_drewN | with_reducible apply Below.alloc | with_reducible apply Below.setCell | (with_reducible refine Below.trans ?_ (Below.mono (by assumption) ?_)) | (simp; done) | (simp; omega) | omega | with_reducible apply le_size_alloc | with_reducible apply le_size_drewN | with_reducible apply le_size_drew | with_reducible apply le_size_setCell | refine Nat.le_trans ?_ (Below.size (by assumption))))
      have z3 := b3.size
      have bV2 : Below wo.heap.size wo ((V.setCell ⟨w3.heap.size, 0, none⟩ (.int .i64 ((q : Int) % 3))).setCell ⟨w3.heap.size, 1, none⟩ (.int .i64 (100 + 10 * (k : Int)))) := Below.setCell (Below.setCell (b3.trans (bV.mono z3)) (by simp; omega) _) (by simp; omega) _
      generalize (V.setCell ⟨w3.heap.size, 0, none⟩ (.int .i64 ((q : Int) % 3))).setCell ⟨w3.heap.size, 1, none⟩ (.int .i64 (100 + 10 * (k : Int))) = V2 at kV2 bV2 ⊢
      obtain ⟨B, hB⟩ : ∃ B, w3.heap.size = B := ⟨_, rfl⟩
      rw [hB] at kV2 z3 ⊢
      clear hp0 v0 v1 f0 f1 kV bV zV hJ b3 hb3 hB
      go_loopw [8] (fun j wr => ∃ (m : Nat) (p : PV), m ≤ J ∧ j = .int .i64 m ∧ Hid (Blk wr B 41 (pvC p).toArray) ∧ Hid (PVOk p) ∧ Below wo.heap.size wo wr) (fun j _ => J - (intOf j).toNat)
      case atStart => exact ⟨0, p0, by omega, rfl, kV2, hok0, bV2⟩
      case round =>
        obtain ⟨m, p, hm, rfl, HB, HK, hbw⟩ := hrel
        have zw := HB.out.lt
        have hbw0 : Below w.heap.size w wr := hbr.trans (hbw.mono zwo)
        by_cases hlt2 : m < J
        · have i2 : (m : Int) < J := by omega
          have i3 : (m : Int) < 20 := by omega
          obtain ⟨y, hy⟩ : ∃ y, p.es[m]? = some y := ⟨_, List.getElem?_eq_getElem (by rw [p.he]; omega)⟩
          obtain ⟨ly, hly⟩ : ∃ ly, p.lv[m / 8]? = some ly := ⟨_, List.getElem?_eq_getElem (by rw [p.hl]; omega)⟩
          go_wp2_with (first
            | (go_at_call 60; refine (hat _ _ (by repeat' (first | with_reducible exact Below.refl _ _ | with_reducible assumption | with_reducible apply Below.drew | with_reducible apply below_drewN | with_reducible apply Below.alloc | with_reducible apply Below.setCell | (with_reducible refine Below.trans ?_ (Below.mono (by assumption) ?_)) | (simp; done) | (simp; omega) | omega | with_reducible apply le_size_alloc | with_reducible apply le_size_drewN | with_reducible apply le_size_drew | with_reducible apply le_size_setCell | refine Nat.le_trans ?_ (Below.size (by assumption))))).mono ?_; rintro e w1 ⟨x1, rfl, rfl⟩)
            | (go_at_call 36; refine (mod_ex _ 1048576 _ (by omega) (by omega)).mono ?_; rintro e w2 ⟨q2, hq2, rfl, rfl⟩))
          all_goals go_at_call 56
          all_goals refine (pack_made q2 _ (by omega) (by first | (intro _; rfl) | (intro h; simp [h] at *; done) | (intro h; simp_all; done)) _ (HAL.out.ext (by clear hbw hbr; exact (by repeat' (first | with_reducible exact Below.refl _ _ | with_reducible assumption | with_reducible apply Below.drew | with_reducible apply below_drewN | with_reducible apply Below.alloc | with_reducible apply Below.setCell | (with_reducible refine Below.trans ?_ (Below.mono (by assumption) ?_)) | (simp; done) | (simp; omega) | omega | with_reducible apply le_size_alloc | with_reducible apply le_size_drewN | with_reducible apply le_size_drew | with_reducible apply le_size_setCell | refine Nat.le_trans ?_ (Below.size (by assumption))))))).mono ?_
          all_goals rintro e w4 ⟨W, hW1, hW2, rfl, hb4⟩
          all_goals have d4 : Below wr.heap.size wr w4 := (by clear hbw hbr hbw0; exact (by repeat' (first | with_reducible exact Below.refl _ _ | with_reducible assumption | with_reducible apply Below.drew | with_reducible apply below_drewN | with_reducible apply Below.alloc | with_reducible apply Below.setCell | (with_reducible refine Below.trans ?_ (Below.mono (by assumption) ?_)) | (simp; done) | (simp; omega) | omega | with_reducible apply le_size_alloc | with_reducible apply le_size_drewN | with_reducible apply le_size_drew | with_reducible apply le_size_setCell | refine Nat.le_trans ?_ (Below.size (by assumption)))))
          all_goals have k4 := HB.out.below_ d4 zw
          all_goals have c4 := pv_cell _ hy k4
          all_goals have f4 := k4.frozen_ (11 + m)
          all_goals have c5 : w4.cell? ⟨B, 2 + m / 8, none⟩ = some (.int .i64 ly) := (k4.cell_ _).trans (by rw [List.getElem?_toArray]; exact pvC_leaf p hly)
          all_goals have f5 := k4.frozen_ (2 + m / 8)
          all_goals go_wp2_with fail
          all_goals go_roundw
          all_goals first
            | (case rel => exact ⟨m + 1, (p.setE m W).setL (m / 8) _, by omega, by go_num, (k4.setE (by omega) (by omega)).setL (by omega), (HK.out.setE hW1 hW2).setL, Below.setCell (Below.setCell (hbw.trans (d4.mono hbw.size)) (by simp; omega) _) (by simp; omega) _⟩)
            | skip
          all_goals (case measure => simp [intOf]; omega)
        · obtain rfl : m = J := by omega
          have hRg : wr.rangeAt B 0 (pvC p) := HB.out.rangePV
          have hO : OwnR procE wr w.heap.size (.slice A3 l.length c3) l := by rw [HLk.out]; exact HO.out.ext hbw
          have HOO := Lib.hid hO
          have H0 := Lib.hid HLk.out
          have hl2 : (l ++ [p]).length = k + 1 := by rw [List.length_append, HLk.out]; rfl
          have H2 := Lib.hid hl2
          have hlk := HLk.out
          have hl9 : l.length ≤ 8 := by omega
          have HL9 := Lib.hid hl9
          clear hO HO hl2 hlt2 hlk hl9
          go_wp2_with (first
            | (refine wpList_load_mid rfl 41 _ rfl B 0 rfl (pvC p) _ hRg Tryz.underlying41 rfl (sz75 _) ?_)
            | (refine wpList_buildP rfl 1 _ rfl [p] rfl rfl (by simp) (by simp) ?_)
            | (at_builtin; refine wpList_ownR procE rfl (.tmp 81) (.tmp 83) _ rfl rfl _ w.heap.size (by simp; omega) A3 c3 k l H0.out.symm (HOO.out.ext (by repeat' (first | with_reducible exact Below.refl _ _ | with_reducible assumption | with_reducible apply Below.drew | with_reducible apply below_drewN | with_reducible apply Below.alloc | with_reducible apply Below.setCell | (with_reducible refine Below.trans ?_ (Below.mono (by assumption) ?_)) | (simp; done) | (simp; omega) | omega | with_reducible apply le_size_alloc | with_reducible apply le_size_drewN | with_reducible apply le_size_drew | with_reducible apply le_size_setCell | refine Nat.le_trans ?_ (Below.size (by assumption))))) (some ⟨wr.heap.size, 0, none⟩) 1 1 [p] rfl (SR.of_blk (E := procE) (l := [p]) (t := 41) (Blk.new_ (by simp) rfl)) (by simp) (by simp; have := HL9.out; omega) rfl rfl ?_; intro A5 c5 w5 hO5 hb5 hg5; rw [H2.out] at hO5 ⊢))
          go_roundw
          case rel => exact ⟨k + 1, A5, c5, l ++ [p], by omega, by go_num, rfl, H2.out, hO5, by show ∀ q ∈ _, _; (intro q hq; rcases List.mem_append.1 hq with h | h; exact HPV.out q h; rw [List.mem_singleton.1 h]; exact HK.out), (show Below w.heap.size w w5 from by clear hbr hbw; exact (by repeat' (first | with_reducible exact Below.refl _ _ | with_reducible assumption | with_reducible apply Below.drew | with_reducible apply below_drewN | with_reducible apply Below.alloc | with_reducible apply Below.setCell | (with_reducible refine Below.trans ?_ (Below.mono (by assumption) ?_)) | (simp; done) | (simp; omega) | omega | with_reducible apply le_size_alloc | with_reducible apply le_size_drewN | with_reducible apply le_size_drew | with_reducible apply le_size_setCell | refine Nat.le_trans ?_ (Below.size (by assumption)))))⟩
          case measure => simp [intOf]; omega
    · obtain rfl : k = N := by omega
      have hO : OwnR procE wo w.heap.size (.slice A3 l.length c3) l := by rw [HLk.out]; exact HO.out
      have HOO := Lib.hid hO
      clear hO HO hlt
      go_wp2
      refine bodyPost_ret (v := .slice A3 k c3) (by simp [results, Tryz.results35, go_sem]) rfl ?_
      have hlk := HLk.out
      exact ⟨⟨A3, c3, l, by rw [hlk], HOO.out, by omega, by omega, HPV.out⟩, hbr⟩
end Go.Proofs.YtmbpjafiinfkkaaGreatDoor
