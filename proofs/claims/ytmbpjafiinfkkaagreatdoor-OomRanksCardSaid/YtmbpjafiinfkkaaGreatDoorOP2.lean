/- Package oom: Score, present. -/
import Derived.Test.YtmbpjafiinfkkaaGreatDoorOP1
namespace Go.Proofs.YtmbpjafiinfkkaaGreatDoor
set_option linter.unusedSimpArgs false
set_option linter.unusedVariables false
open Go.RowKit Go.Maps

/-- How many words are entries. -/
def scoN (es : List Nat) : Int := ((es.filter (fun x => decide (x % 4 ≠ 0))).length : Nat)
/-- The frames that words map. -/
def frmL (es : List Nat) : List Int := (es.filter (fun x => decide (x % 4 = 1))).map eN
def scoE (es : List Nat) : Int := fstNZ (es.map unpE)
theorem take_snocG {α : Type} {l : List α} {k : Nat} {x : α} (h : l[k]? = some x) : l.take (k + 1) = l.take k ++ [x] := by
  obtain ⟨hk, rfl⟩ := List.getElem?_eq_some_iff.1 h
  rw [List.take_succ_eq_append_getElem hk]
theorem scoN_snoc (l : List Nat) (x : Nat) : scoN (l ++ [x]) = scoN l + if x % 4 ≠ 0 then 1 else 0 := by
  unfold scoN
  by_cases h : x % 4 = 0 <;> simp [h]
theorem scoN_le (l : List Nat) : 0 ≤ scoN l ∧ scoN l ≤ l.length := by
  unfold scoN
  have := List.length_filter_le (fun x : Nat => decide (x % 4 ≠ 0)) l
  omega
theorem frmL_snoc (l : List Nat) (x : Nat) : frmL (l ++ [x]) = frmL l ++ if x % 4 = 1 then [eN x] else [] := by
  unfold frmL
  by_cases h : x % 4 = 1 <;> simp [h]
theorem frmL_len (l : List Nat) : (frmL l).length ≤ l.length := by
  unfold frmL
  rw [List.length_map]
  exact List.length_filter_le _ _
theorem sz75 (p : PV) : (Tryz.prog.info? 41).map (·.size) = some (pvC p).length := by
  rw [pvC_len]
  kernel_rfl
/-- The whole process in memory of its own. -/
theorem Blk.rangePV {p : PV} {w : World} {b : Nat} {t : TypeId} (h : Blk w b t (pvC p).toArray) : w.rangeAt b 0 (pvC p) := fun j v hv => by
  rw [h.cell_, Nat.zero_add]
  simpa using hv

set_option maxRecDepth 100000 in
set_option maxHeartbeats 4000000 in
theorem Score_any (p : PV) (w : World) (hal : AL w) : Calls Tryz.prog 20 #[pvV p] w fun e w' => e = .returned (.tuple #[.int .i64 (if scoE p.es = 0 then scoN p.es else 0), .int .i64 (scoE p.es)]) ∧ Below w.heap.size w w' := by
  obtain ⟨W1, hW1⟩ : ∃ W1, w.alloc (.cells (pvC p).toArray 41) = W1 := ⟨_, rfl⟩
  have B1 : Below w.heap.size w W1 := by rw [← hW1]; exact (by repeat' (first | with_reducible exact Below.refl _ _ | with_reducible assumption | with_reducible apply Below.drew | with_reducible apply below_drewN | with_reducible apply Below.alloc | with_reducible apply Below.setCell | (with_reducible refine Below.trans ?_ (Below.mono (by assumption) ?_)) | (simp; done) | (simp; omega) | omega | with_reducible apply le_size_alloc | with_reducible apply le_size_drewN | with_reducible apply le_size_drew | with_reducible apply le_size_setCell | refine Nat.le_trans ?_ (Below.size (by assumption))))
  have k1 : Blk W1 w.heap.size 41 (pvC p).toArray := by rw [← hW1]; exact (by repeat' (first | with_reducible assumption | (with_reducible refine Blk.new_ ?_ ?_ <;> first | (simp; done) | rfl) | with_reducible apply Blk.drew_ | with_reducible apply Blk.drewN_ | with_reducible apply Blk.alloc_ | with_reducible refine Blk.far_ ?_ ?_ _ | (with_reducible refine Blk.below_ ?_ (by assumption) ?_) | (simp; done) | (simp; omega) | omega | with_reducible apply le_size_alloc | with_reducible apply lt_size_alloc | with_reducible apply le_size_drewN | with_reducible apply le_size_drew | with_reducible apply le_size_setCell | refine Nat.lt_of_lt_of_le ?_ (Below.size (by assumption)) | refine Nat.le_trans ?_ (Below.size (by assumption))))
  have hal1 : AL W1 := hal.ext B1
  have hR := k1.rangePV
  obtain ⟨z, hz⟩ : ∃ z, scoE p.es = z := ⟨_, rfl⟩
  have HU : ∀ w, AL w → Calls Tryz.prog 48 #[.agg (pvC p).toArray] w fun e w' => (∃ A c, e = .returned (.tuple #[.slice A (if z = 0 then 64 else 0) c, .int .i64 z]) ∧ (z = 0 → SR entE w' A (p.es.map entOf))) ∧ Below w.heap.size w w' := fun w ha => by
    have := unpack_any p w ha
    unfold UnpPost at this
    rw [show fstNZ (p.es.map unpE) = z from hz] at this
    exact this
  rw [hz]
  have hlen := p.he
  generalize p.es = es at *
  clear hz
  unfold pvV
  by_cases hz : z = 0
  · subst hz
    rw [if_pos rfl]
    have HL := Lib.hid hlen
    clear hlen
    go_enter Tryz.func20, Tryz.ntmps20
    go_wp2_with (first
      | (refine wpList_load_mid rfl 41 _ rfl w.heap.size 0 rfl (pvC p) _ hR Tryz.underlying41 rfl (sz75 p) ?_)
      | (go_at_call 48; refine (HU _ hal1).mono ?_; rintro e w1 ⟨⟨A, c, rfl, hs⟩, hb1⟩))
    have hS := Lib.hid (hs trivial)
    clear hs
    go_loopw [19, 6] (fun i s wr => ∃ k : Nat, k ≤ 64 ∧ i = .int .i64 k ∧ s = .int .i64 (scoN (es.take k)) ∧ Below w1.heap.size w1 wr) (fun i _ _ => 64 - (intOf i).toNat)
    case atStart => exact ⟨0, by omega, rfl, by simp [scoN], Below.refl _ _⟩
    case round =>
      obtain ⟨k, hk, rfl, rfl, hbw⟩ := hrel
      by_cases hlt : k < 64
      · obtain ⟨b, off, y, rfl, hbl, hy, q0, q1, q2, q3, q4⟩ := ent_at (hS.out.ext hbw) (show k < (es.map entOf).length by rw [List.length_map, HL.out]; exact hlt)
        rw [List.getElem?_map, Option.map_eq_some_iff] at hy
        obtain ⟨x, hx, rfl⟩ := hy
        have i1 : (k : Int) < 64 := by omega
        have hbn := scoN_le (es.take k)
        have hbl2 : (es.take k).length ≤ 64 := by rw [List.length_take]; omega
        have hsn := scoN_snoc (es.take k) x
        rw [← take_snocG hx] at hsn
        have hsx : scoN (es.take k) ≤ 64 := by omega
        have hs0 := hbn.1
        have HT := Lib.hid hsn
        dsimp only [entOf] at q0 q1 q2 q3 q4
        clear hx hsn hbl2 hbn
        generalize scoN (es.take k) = sv at *
        by_cases h0 : x % 4 = 0
        · have HT2 : Hid (scoN (es.take (k + 1)) = sv) := by have := HT.out; rw [if_neg (by omega)] at this; show _ = _; omega
          have hb : (eK x != 0) = false := by simp [eK]; omega
          clear HT
          go_wp2
          go_roundw
          case rel => exact ⟨k + 1, by omega, by go_num, by rw [HT2.out], (by repeat' (first | with_reducible exact Below.refl _ _ | with_reducible assumption | with_reducible apply Below.drew | with_reducible apply below_drewN | with_reducible apply Below.alloc | with_reducible apply Below.setCell | (with_reducible refine Below.trans ?_ (Below.mono (by assumption) ?_)) | (simp; done) | (simp; omega) | omega | with_reducible apply le_size_alloc | with_reducible apply le_size_drewN | with_reducible apply le_size_drew | with_reducible apply le_size_setCell | refine Nat.le_trans ?_ (Below.size (by assumption))))⟩
          case measure => simp [intOf]; omega
        · have HT2 : Hid (scoN (es.take (k + 1)) = sv + 1) := by have := HT.out; rw [if_pos h0] at this; exact this
          have hb : (eK x != 0) = true := by simp [eK]; omega
          clear HT
          go_wp2
          go_roundw
          case rel => exact ⟨k + 1, by omega, by go_num, by rw [HT2.out], (by repeat' (first | with_reducible exact Below.refl _ _ | with_reducible assumption | with_reducible apply Below.drew | with_reducible apply below_drewN | with_reducible apply Below.alloc | with_reducible apply Below.setCell | (with_reducible refine Below.trans ?_ (Below.mono (by assumption) ?_)) | (simp; done) | (simp; omega) | omega | with_reducible apply le_size_alloc | with_reducible apply le_size_drewN | with_reducible apply le_size_drew | with_reducible apply le_size_setCell | refine Nat.le_trans ?_ (Below.size (by assumption))))⟩
          case measure => simp [intOf]; omega
      · obtain rfl : k = 64 := by omega
        have hT : es.take 64 = es := List.take_of_length_le (by rw [HL.out]; omega)
        rw [hT]
        clear hlt hT
        go_wp2
        refine bodyPost_ret (v := .tuple #[.int .i64 (scoN es), .int .i64 0]) (by simp [results, Tryz.results20, go_sem]) rfl ?_
        exact ⟨rfl, (by repeat' (first | with_reducible exact Below.refl _ _ | with_reducible assumption | with_reducible apply Below.drew | with_reducible apply below_drewN | with_reducible apply Below.alloc | with_reducible apply Below.setCell | (with_reducible refine Below.trans ?_ (Below.mono (by assumption) ?_)) | (simp; done) | (simp; omega) | omega | with_reducible apply le_size_alloc | with_reducible apply le_size_drewN | with_reducible apply le_size_drew | with_reducible apply le_size_setCell | refine Nat.le_trans ?_ (Below.size (by assumption))))⟩
  · rw [if_neg hz]
    have hb : (z != 0) = true := by simpa using hz
    have HZ : Hid (z ≠ 0) := hz
    clear hz
    go_enter Tryz.func20, Tryz.ntmps20
    go_wp2_with (first
      | (refine wpList_load_mid rfl 41 _ rfl w.heap.size 0 rfl (pvC p) _ hR Tryz.underlying41 rfl (sz75 p) ?_)
      | (go_at_call 48; refine (HU _ hal1).mono ?_; rw [if_neg HZ.out]; rintro e w1 ⟨⟨A, c, rfl, hs⟩, hb1⟩))
    refine bodyPost_ret (v := .tuple #[.int .i64 0, .int .i64 z]) (by simp [results, Tryz.results20, go_sem]) rfl ?_
    exact ⟨rfl, (by repeat' (first | with_reducible exact Below.refl _ _ | with_reducible assumption | with_reducible apply Below.drew | with_reducible apply below_drewN | with_reducible apply Below.alloc | with_reducible apply Below.setCell | (with_reducible refine Below.trans ?_ (Below.mono (by assumption) ?_)) | (simp; done) | (simp; omega) | omega | with_reducible apply le_size_alloc | with_reducible apply le_size_drewN | with_reducible apply le_size_drew | with_reducible apply le_size_setCell | refine Nat.le_trans ?_ (Below.size (by assumption))))⟩

set_option maxRecDepth 100000 in
set_option maxHeartbeats 4000000 in
theorem present_own (p : PV) (w : World) (hal : AL w) (h0 : scoE p.es = 0) : Calls Tryz.prog 58 #[pvV p] w fun e w' => (∃ A c, e = .returned (.slice A (frmL p.es).length c) ∧ OwnR intE w' w.heap.size (.slice A (frmL p.es).length c) (frmL p.es)) ∧ Below w.heap.size w w' := by
  obtain ⟨W1, hW1⟩ : ∃ W1, w.alloc (.cells (pvC p).toArray 41) = W1 := ⟨_, rfl⟩
  have B1 : Below w.heap.size w W1 := by rw [← hW1]; exact (by repeat' (first | with_reducible exact Below.refl _ _ | with_reducible assumption | with_reducible apply Below.drew | with_reducible apply below_drewN | with_reducible apply Below.alloc | with_reducible apply Below.setCell | (with_reducible refine Below.trans ?_ (Below.mono (by assumption) ?_)) | (simp; done) | (simp; omega) | omega | with_reducible apply le_size_alloc | with_reducible apply le_size_drewN | with_reducible apply le_size_drew | with_reducible apply le_size_setCell | refine Nat.le_trans ?_ (Below.size (by assumption))))
  have k1 : Blk W1 w.heap.size 41 (pvC p).toArray := by rw [← hW1]; exact (by repeat' (first | with_reducible assumption | (with_reducible refine Blk.new_ ?_ ?_ <;> first | (simp; done) | rfl) | with_reducible apply Blk.drew_ | with_reducible apply Blk.drewN_ | with_reducible apply Blk.alloc_ | with_reducible refine Blk.far_ ?_ ?_ _ | (with_reducible refine Blk.below_ ?_ (by assumption) ?_) | (simp; done) | (simp; omega) | omega | with_reducible apply le_size_alloc | with_reducible apply lt_size_alloc | with_reducible apply le_size_drewN | with_reducible apply le_size_drew | with_reducible apply le_size_setCell | refine Nat.lt_of_lt_of_le ?_ (Below.size (by assumption)) | refine Nat.le_trans ?_ (Below.size (by assumption))))
  have hal1 : AL W1 := hal.ext B1
  have hR := k1.rangePV
  have HU : ∀ w, AL w → Calls Tryz.prog 48 #[.agg (pvC p).toArray] w fun e w' => (∃ A c, e = .returned (.tuple #[.slice A 64 c, .int .i64 0]) ∧ SR entE w' A (p.es.map entOf)) ∧ Below w.heap.size w w' := fun w ha => (unpack_any p w ha).mono fun e w' h => by
    unfold UnpPost at h
    rw [show fstNZ (p.es.map unpE) = 0 from h0, if_pos rfl] at h
    obtain ⟨⟨A, c, e, hs⟩, hb⟩ := h
    exact ⟨⟨A, c, e, hs rfl⟩, hb⟩
  clear h0
  have hlen := p.he
  generalize p.es = es at *
  unfold pvV
  · have HL := Lib.hid hlen
    clear hlen
    go_enter Tryz.func58, Tryz.ntmps58
    go_wp2_with (first
      | (refine wpList_load_mid rfl 41 _ rfl w.heap.size 0 rfl (pvC p) _ hR Tryz.underlying41 rfl (sz75 p) ?_)
      | (go_at_call 48; refine (HU _ hal1).mono ?_; rintro e w1 ⟨⟨A, c, rfl, hs⟩, hb1⟩))
    have hS := Lib.hid hs
    have z1 := hb1.size
    clear hs
    go_loopw [15, 5] (fun i s wr => ∃ (k : Nat) (B : Option Addr) (d : Nat), k ≤ 64 ∧ i = .int .i64 k ∧ s = .slice B (frmL (es.take k)).length d ∧ Hid (OwnR intE wr w1.heap.size (.slice B (frmL (es.take k)).length d) (frmL (es.take k))) ∧ Below w1.heap.size w1 wr) (fun i _ _ => 64 - (intOf i).toNat)
    case atStart => exact ⟨0, none, 0, by omega, rfl, rfl, OwnR.nil, Below.refl _ _⟩
    case round =>
      obtain ⟨k, B, d, hk, rfl, rfl, HO, hbw⟩ := hrel
      by_cases hlt : k < 64
      · obtain ⟨b, off, y, rfl, hbl, hy, q0, q1, q2, q3, q4⟩ := ent_at (hS.out.ext hbw) (show k < (es.map entOf).length by rw [List.length_map, HL.out]; exact hlt)
        rw [List.getElem?_map, Option.map_eq_some_iff] at hy
        obtain ⟨x, hx, rfl⟩ := hy
        have i1 : (k : Int) < 64 := by omega
        have hfl := frmL_len (es.take k)
        have hbl2 : (es.take k).length ≤ 64 := by rw [List.length_take]; omega
        have hfn := frmL_snoc (es.take k) x
        rw [← take_snocG hx] at hfn
        have hf64 : (frmL (es.take k)).length ≤ 64 := by omega
        have HT := Lib.hid hfn
        have zw := hbw.size
        dsimp only [entOf] at q0 q1 q2 q3 q4
        clear hx hfn hbl2 hfl
        obtain ⟨l, hl⟩ : ∃ l, frmL (es.take k) = l := ⟨_, rfl⟩
        rw [hl] at HO HT hf64 ⊢
        have HLL := Lib.hid hl
        clear hl
        by_cases h1 : x % 4 = 1
        · have HT2 : Hid (frmL (es.take (k + 1)) = l ++ [eN x]) := by have := HT.out; rw [if_pos h1] at this; exact this
          have hb : (eK x == 1) = true := by simp [eK]; omega
          clear HT
          go_wp2_with (at_builtin; refine wpList_ownR intE rfl (.tmp 22) (.tmp 25) _ rfl rfl _ w1.heap.size (by simp; omega) B d l.length l rfl (HO.out.ext (by repeat' (first | with_reducible exact Below.refl _ _ | with_reducible assumption | with_reducible apply Below.drew | with_reducible apply below_drewN | with_reducible apply Below.alloc | with_reducible apply Below.setCell | (with_reducible refine Below.trans ?_ (Below.mono (by assumption) ?_)) | (simp; done) | (simp; omega) | omega | with_reducible apply le_size_alloc | with_reducible apply le_size_drewN | with_reducible apply le_size_drew | with_reducible apply le_size_setCell | refine Nat.le_trans ?_ (Below.size (by assumption))))) (some ⟨wr.heap.size + 1, 0, none⟩) 1 1 [eN x] rfl (SR.of_blk (E := intE) (l := [eN x]) (t := 3) (Blk.new_ (by simp) rfl)) (by simp) (by simp; omega) rfl rfl ?_; intro A5 c5 w5 hO5 hb5 hg5)
          go_roundw
          case rel => exact ⟨k + 1, A5, c5, by omega, by go_num, by rw [HT2.out, List.length_append]; rfl, by rw [HT2.out]; exact hO5, (by repeat' (first | with_reducible exact Below.refl _ _ | with_reducible assumption | with_reducible apply Below.drew | with_reducible apply below_drewN | with_reducible apply Below.alloc | with_reducible apply Below.setCell | (with_reducible refine Below.trans ?_ (Below.mono (by assumption) ?_)) | (simp; done) | (simp; omega) | omega | with_reducible apply le_size_alloc | with_reducible apply le_size_drewN | with_reducible apply le_size_drew | with_reducible apply le_size_setCell | refine Nat.le_trans ?_ (Below.size (by assumption))))⟩
          case measure => simp [intOf]; omega
        · have HT2 : Hid (frmL (es.take (k + 1)) = l) := by have := HT.out; rw [if_neg h1, List.append_nil] at this; exact this
          have hb : (eK x == 1) = false := by simp [eK]; omega
          clear HT
          go_wp2
          go_roundw
          case rel => exact ⟨k + 1, B, d, by omega, by go_num, by rw [HT2.out], by rw [HT2.out]; exact OwnR.ext HO.out (by repeat' (first | with_reducible exact Below.refl _ _ | with_reducible assumption | with_reducible apply Below.drew | with_reducible apply below_drewN | with_reducible apply Below.alloc | with_reducible apply Below.setCell | (with_reducible refine Below.trans ?_ (Below.mono (by assumption) ?_)) | (simp; done) | (simp; omega) | omega | with_reducible apply le_size_alloc | with_reducible apply le_size_drewN | with_reducible apply le_size_drew | with_reducible apply le_size_setCell | refine Nat.le_trans ?_ (Below.size (by assumption)))), (by repeat' (first | with_reducible exact Below.refl _ _ | with_reducible assumption | with_reducible apply Below.drew | with_reducible apply below_drewN | with_reducible apply Below.alloc | with_reducible apply Below.setCell | (with_reducible refine Below.trans ?_ (Below.mono (by assumption) ?_)) | (simp; done) | (simp; omega) | omega | with_reducible apply le_size_alloc | with_reducible apply le_size_drewN | with_reducible apply le_size_drew | with_reducible apply le_size_setCell | refine Nat.le_trans ?_ (Below.size (by assumption))))⟩
          case measure => simp [intOf]; omega
      · obtain rfl : k = 64 := by omega
        have hT : es.take 64 = es := List.take_of_length_le (by rw [HL.out]; omega)
        rw [hT] at HO ⊢
        clear hlt hT
        go_wp2
        refine bodyPost_ret (v := .slice B (frmL es).length d) (by simp [results, Tryz.results58, go_sem]) rfl ?_
        exact ⟨⟨B, d, rfl, OwnR.base_ HO.out (by have := B1.size; omega)⟩, (by repeat' (first | with_reducible exact Below.refl _ _ | with_reducible assumption | with_reducible apply Below.drew | with_reducible apply below_drewN | with_reducible apply Below.alloc | with_reducible apply Below.setCell | (with_reducible refine Below.trans ?_ (Below.mono (by assumption) ?_)) | (simp; done) | (simp; omega) | omega | with_reducible apply le_size_alloc | with_reducible apply le_size_drewN | with_reducible apply le_size_drew | with_reducible apply le_size_setCell | refine Nat.le_trans ?_ (Below.size (by assumption))))⟩
theorem present_any (p : PV) (w : World) (hal : AL w) (h0 : scoE p.es = 0) : Calls Tryz.prog 58 #[pvV p] w fun e w' => (∃ A c, e = .returned (.slice A (frmL p.es).length c) ∧ Sl w' (.int .i64) A (frmL p.es)) ∧ Below w.heap.size w w' :=
  (present_own p w hal h0).mono fun e w' ⟨⟨A, c, he, ho⟩, hb⟩ => ⟨⟨A, c, he, (OwnR.sr ho).2.sl⟩, hb⟩
end Go.Proofs.YtmbpjafiinfkkaaGreatDoor
