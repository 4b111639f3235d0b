/- Package oom: a process as data; its entries unpacked. -/
import Derived.Test.YtmbpjafiinfkkaaGreatDoorOE5
import Derived.Test.YtmbpjafiinfkkaaGreatDoorZF3
import Derived.Test.YtmbpjafiinfkkaaGreatDoorOwnR
import Derived.Deep.MidRow
import Derived.Laws.MakeOwn
namespace Go.Proofs.YtmbpjafiinfkkaaGreatDoor
set_option linter.unusedSimpArgs false
set_option linter.unusedVariables false
open Go.RowKit Go.Maps

/-- A process. -/
structure PV where
  st : Int
  root : Int
  lv : List Int
  rA : Option Addr
  rN : Nat
  rC : Nat
  es : List Nat
  hl : lv.length = 8
  he : es.length = 64
  hw : ∀ x ∈ es, x < 18446744073709551616
def pvC (p : PV) : List Value := .int .i64 p.st :: .int .i64 p.root :: (p.lv.map (fun n => .int .i64 n) ++ (.slice p.rA p.rN p.rC :: p.es.map (fun x : Nat => .int .u64 (x : Int))))
def pvV (p : PV) : Value := .agg (pvC p).toArray
theorem pvC_len (p : PV) : (pvC p).length = 75 := by simp [pvC, p.hl, p.he]
theorem pvC_leaf (p : PV) {i : Nat} {n : Int} (h : p.lv[i]? = some n) : (pvC p)[2 + i]? = some (.int .i64 n) := by
  have hi : i < p.lv.length := (List.getElem?_eq_some_iff.1 h).1
  show (Value.int .i64 p.st :: .int .i64 p.root :: _)[2 + i]? = _
  rw [show 2 + i = i + 1 + 1 by omega, List.getElem?_cons_succ, List.getElem?_cons_succ, List.getElem?_append_left (by simpa using hi), List.getElem?_map, h]
  rfl
theorem pvC_regs (p : PV) : (pvC p)[10]? = some (.slice p.rA p.rN p.rC) := by
  show (Value.int .i64 p.st :: .int .i64 p.root :: _)[8 + 1 + 1]? = _
  rw [List.getElem?_cons_succ, List.getElem?_cons_succ, List.getElem?_append_right (by simp [p.hl]), List.length_map, p.hl]
  rfl
theorem pvC_ent (p : PV) {i : Nat} {x : Nat} (h : p.es[i]? = some x) : (pvC p)[11 + i]? = some (.int .u64 (x : Int)) := by
  show (Value.int .i64 p.st :: .int .i64 p.root :: _)[11 + i]? = _
  rw [show 11 + i = (8 + (i + 1)) + 1 + 1 by omega, List.getElem?_cons_succ, List.getElem?_cons_succ, List.getElem?_append_right (by simp [p.hl]), List.length_map, p.hl, show 8 + (i + 1) - 8 = i + 1 by omega, List.getElem?_cons_succ, List.getElem?_map, h]
  rfl
theorem pvC_one (p : PV) : ∀ u ∈ pvC p, u.oneCell' = true := by
  intro u hu
  simp only [pvC, List.mem_cons, List.mem_append, List.mem_map] at hu
  rcases hu with rfl | rfl | ⟨n, _, rfl⟩ | rfl | ⟨x, _, rfl⟩ <;> rfl
def procE : Elt Tryz.prog PV where
  e := 41
  s := 22
  sz := 75
  bytes := 616
  z := .agg (.int .i64 0 :: .int .i64 0 :: (List.replicate 8 (.int .i64 0) ++ (.slice none 0 0 :: List.replicate 64 (.int .u64 0)))).toArray
  enc := pvC
  hs := Tryz.underlying22
  hi := by kernel_rfl
  hz := by kernel_rfl
  hlen := pvC_len
  hone := pvC_one
  pos := by decide
  few := by decide
abbrev Ent := Int × Int × Bool × Bool × Bool
def entOf (x : Nat) : Ent := (eK x, eN x, eA x, eB x, eC x)
def entE : Elt Tryz.prog Ent where
  e := 63
  s := 79
  sz := 5
  bytes := 24
  z := .agg #[.int .i64 0, .int .i64 0, .bool false, .bool false, .bool false]
  enc x := [.int .i64 x.1, .int .i64 x.2.1, .bool x.2.2.1, .bool x.2.2.2.1, .bool x.2.2.2.2]
  hs := Tryz.underlying79
  hi := by kernel_rfl
  hz := rfl
  hlen _ := rfl
  hone _ u hu := by simp at hu; rcases hu with rfl | rfl | rfl | rfl | rfl <;> rfl
  pos := by decide
  few := by decide
/-- Ints as a row. -/
def intE : Elt Tryz.prog Int where
  e := 3
  s := 23
  sz := 1
  bytes := 8
  z := .int .i64 0
  enc x := [.int .i64 x]
  hs := Tryz.underlying23
  hi := by kernel_rfl
  hz := rfl
  hlen _ := rfl
  hone _ u hu := by simp at hu; subst hu; rfl
  pos := by decide
  few := by decide
theorem intE_flat (l : List Int) : intE.flat l = l.map (.int .i64) := by
  induction l with
  | nil => rfl
  | cons x l ih =>
    show Value.int .i64 x :: intE.flat l = _
    rw [ih]
    rfl
theorem SR.sl {w : World} {A : Option Addr} {l : List Int} (h : SR intE w A l) : Sl w (.int .i64) A l := fun hp => by
  have h' : Sl w (fun v : Value => v) A (l.map (.int .i64)) := by rw [← intE_flat]; exact h
  obtain ⟨b, off, e, hb, hc⟩ := h' (by simpa using hp)
  exact ⟨b, off, e, hb, fun j x hx => hc j _ (by rw [List.getElem?_map, hx]; rfl)⟩
theorem SR.of_sl {w : World} {A : Option Addr} {l : List Int} (h : Sl w (.int .i64) A l) : SR intE w A l := by
  show Sl w (fun v : Value => v) A (intE.flat l)
  rw [intE_flat]
  intro hp
  obtain ⟨b, off, e, hb, hc⟩ := h (by simpa using hp)
  refine ⟨b, off, e, hb, fun j x hx => ?_⟩
  rw [List.getElem?_map, Option.map_eq_some_iff] at hx
  obtain ⟨y, hy, rfl⟩ := hx
  exact hc j y hy
theorem ent_at {w : World} {A : Option Addr} {l : List Ent} {k : Nat} (h : SR entE w A l) (hk : k < l.length) :
    ∃ b off x, A = some ⟨b, off, none⟩ ∧ b < w.heap.size ∧ l[k]? = some x ∧ w.cell? ⟨b, off + k * 5, none⟩ = some (.int .i64 x.1) ∧ w.cell? ⟨b, off + k * 5 + 1, none⟩ = some (.int .i64 x.2.1) ∧ w.cell? ⟨b, off + k * 5 + 2, none⟩ = some (.bool x.2.2.1) ∧ w.cell? ⟨b, off + k * 5 + 3, none⟩ = some (.bool x.2.2.2.1) ∧ w.cell? ⟨b, off + k * 5 + 4, none⟩ = some (.bool x.2.2.2.2) := by
  obtain ⟨b, off, x, e, hb, hx, hc⟩ := h.at_ hk
  exact ⟨b, off, x, e, hb, hx, hc 0 _ rfl, hc 1 _ rfl, hc 2 _ rfl, hc 3 _ rfl, hc 4 _ rfl⟩
def wordsL (es : List Nat) : List Value := es.map (fun x : Nat => Value.int .u64 (x : Int))
theorem sz64 {es : List Nat} (he : es.length = 64) : (Tryz.prog.info? 39).map (·.size) = some (wordsL es).length := by
  unfold wordsL
  rw [List.length_map, he]
  kernel_rfl
theorem idx64 {es : List Nat} (he : es.length = 64) {i x : Nat} (hx : es[i]? = some x) (w : World) : (Instr.index 39 (.agg (wordsL es).toArray) (.int .i64 i)).run Tryz.prog w = .ok (.int .u64 (x : Int)) w := by
  obtain ⟨hi, e⟩ := List.getElem?_eq_some_iff.1 hx
  have h2 : i < 64 := by omega
  have h3 : (i : Int) < 64 := by omega
  have h4 : (wordsL es)[i]? = some (.int .u64 (x : Int)) := by unfold wordsL; rw [List.getElem?_map, hx]; rfl
  have hs : (sizeOf 38).run Tryz.prog w = .ok 1 w := by
    have : (Tryz.prog.info? 38).map (·.size) = some 1 := by kernel_rfl
    cases hq : Tryz.prog.info? 38 with
    | none => simp [hq] at this
    | some i => simp [hq] at this; simp [sizeOf, typeInfo, hq, this]
  have ha : (isAgg 38).run Tryz.prog w = .ok false w := by
    unfold isAgg
    rw [Sem.run_bind, run_underlying Tryz.underlying38 w]
    simp [Result.andThen]
  simp [Instr.index, run_underlying Tryz.underlying39, asIntOf, h3, hs, part, ha, Result.andThen, h4]
  intro h
  omega
/-- The entries of a process in memory. -/
theorem range64 (p : PV) {w : World} {b off : Nat} (h : ∀ (j : Nat) v, (pvC p)[j]? = some v → w.cell? ⟨b, off + j, none⟩ = some v) : w.rangeAt b (off + 11) (wordsL p.es) := by
  intro j v hv
  unfold wordsL at hv
  rw [List.getElem?_map, Option.map_eq_some_iff] at hv
  obtain ⟨x, hx, rfl⟩ := hv
  have := h (11 + j) _ (pvC_ent p hx)
  rw [show off + 11 + j = off + (11 + j) by omega]
  exact this

/-- What unpack hands back. -/
def UnpPost (p : PV) (w : World) (e : Ending) (w' : World) : Prop :=
  (∃ A c, e = .returned (.tuple #[.slice A (if fstNZ (p.es.map unpE) = 0 then 64 else 0) c, .int .i64 (fstNZ (p.es.map unpE))]) ∧ (fstNZ (p.es.map unpE) = 0 → SR entE w' A (p.es.map entOf))) ∧ Below w.heap.size w w'

set_option maxRecDepth 100000 in
set_option maxHeartbeats 4000000 in
theorem unpack_any (p : PV) (w : World) (hal : AL w) : Calls Tryz.prog 48 #[pvV p] w (UnpPost p w) := by
  obtain ⟨i0, hi, hz0, hz1, hz2⟩ := info_parts entE.hi
  obtain ⟨W1, hW1⟩ : ∃ W1, w.alloc (.cells (pvC p).toArray 41) = W1 := ⟨_, rfl⟩
  have B1 : Below w.heap.size w W1 := by rw [← hW1]; exact (by repeat' (first | with_reducible exact Below.refl _ _ | with_reducible assumption | with_reducible apply Below.drew | with_reducible apply below_drewN | with_reducible apply Below.alloc | with_reducible apply Below.setCell | (with_reducible refine Below.trans ?_ (Below.mono (by assumption) ?_)) | (simp; done) | (simp; omega) | omega | with_reducible apply le_size_alloc | with_reducible apply le_size_drewN | with_reducible apply le_size_drew | with_reducible apply le_size_setCell | refine Nat.le_trans ?_ (Below.size (by assumption))))
  have k1 : Blk W1 w.heap.size 41 (pvC p).toArray := by rw [← hW1]; exact (by repeat' (first | with_reducible assumption | (with_reducible refine Blk.new_ ?_ ?_ <;> first | (simp; done) | rfl) | with_reducible apply Blk.drew_ | with_reducible apply Blk.drewN_ | with_reducible apply Blk.alloc_ | with_reducible refine Blk.far_ ?_ ?_ _ | (with_reducible refine Blk.below_ ?_ (by assumption) ?_) | (simp; done) | (simp; omega) | omega | with_reducible apply le_size_alloc | with_reducible apply lt_size_alloc | with_reducible apply le_size_drewN | with_reducible apply le_size_drew | with_reducible apply le_size_setCell | refine Nat.lt_of_lt_of_le ?_ (Below.size (by assumption)) | refine Nat.le_trans ?_ (Below.size (by assumption))))
  have z1 : w.heap.size < W1.heap.size := k1.lt
  obtain ⟨W2, hmk, hown, hgr⟩ := run_makeSlice_owned (P := Tryz.prog) (w := W1) W1.heap.size 79 63 i0 _ 5 Tryz.underlying79 hi hz0 hz1 .i64 .i64 64 (by omega) (by rw [hz2]; decide) (by decide) (Nat.le_refl _)
  have B2 : Below W1.heap.size W1 W2 := (Below.refl _ _).grown hgr (Nat.le_refl _) (fun r e => by cases e)
  have k2 := k1.below_ B2 z1
  have z2 : w.heap.size < W2.heap.size := k2.lt
  have hL : W2.rangeAt w.heap.size 11 (wordsL p.es) := by
    have := range64 p (w := W2) (b := w.heap.size) (off := 0) (fun j v hv => by rw [Nat.zero_add, k2.cell_]; simpa using hv)
    simpa using this
  have hmk' : (Instr.makeSlice 79 (.int .i64 0) (.int .i64 64)).run Tryz.prog W1 = .ok (.slice (some ⟨W1.heap.size, 0, none⟩) 0 64) W2 := hmk
  unfold pvV
  go_enter Tryz.func48, Tryz.ntmps48
  go_wp2_with (refine wpList_load_mid rfl 39 _ rfl w.heap.size 11 rfl (wordsL p.es) _ hL Tryz.underlying39 rfl (sz64 p.he) ?_)
  obtain ⟨es, hes⟩ : ∃ es, p.es = es := ⟨_, rfl⟩
  have hlen : es.length = 64 := by rw [← hes]; exact p.he
  have hw64 : ∀ x ∈ es, x < 18446744073709551616 := by rw [← hes]; exact p.hw
  rw [hes]
  obtain ⟨z, hz⟩ : ∃ z, fstNZ (es.map unpE) = z := ⟨_, rfl⟩
  have HZ := Lib.hid hz
  have HL := Lib.hid hlen
  have HW := Lib.hid hw64
  have hzz : fstNZ (p.es.map unpE) = z := by rw [hes]; exact hz
  have HP : ∀ e w', ((∃ A c, e = .returned (.tuple #[.slice A (if z = 0 then 64 else 0) c, .int .i64 z]) ∧ (z = 0 → SR entE w' A (es.map entOf))) ∧ Below w.heap.size w w') → UnpPost p w e w' := fun e w' h => by
    unfold UnpPost
    rw [hzz, hes]
    exact h
  clear hz hlen hw64 hzz hL hmk hmk' k1 hi hz0 hz1 hz2 hgr
  have ho : OwnR entE W2 W1.heap.size (.slice (some ⟨W1.heap.size, 0, none⟩) 0 64) [] := hown
  clear hown
  have zB : W1.heap.size ≤ W2.heap.size := B2.size
  have hal2 : AL W2 := hal.ext (B1.trans (B2.mono B1.size))
  go_loopw [12, 4] (fun i s wr => ∃ (k : Nat) (A : Option Addr) (c : Nat), k ≤ 64 ∧ i = .int .i64 k ∧ s = .slice A k c ∧ Hid (OwnR entE wr W1.heap.size (.slice A k c) ((es.take k).map entOf)) ∧ Hid (∀ y ∈ (es.map unpE).take k, y = 0) ∧ Below W1.heap.size W2 wr) (fun i _ _ => 64 - (intOf i).toNat)
  case atStart => exact ⟨0, _, _, by omega, rfl, rfl, ho, by show ∀ y ∈ _, _; simp, Below.refl _ _⟩
  case round =>
    obtain ⟨k, A, c, hk, rfl, rfl, HO, HR, hbw⟩ := hrel
    have zw := hbw.size
    have wra : AL wr := hal.ext ((B1.trans (B2.mono B1.size)).trans (hbw.mono (by omega)))
    by_cases hlt : k < 64
    · obtain ⟨x, hx⟩ : ∃ x, es[k]? = some x := ⟨_, List.getElem?_eq_getElem (by rw [HL.out]; exact hlt)⟩
      have hI := idx64 HL.out hx
      have i1 : (k : Int) < 64 := by omega
      have hx64 := HW.out x (List.mem_of_getElem? hx)
      have hxe : (es.map unpE)[k]? = some (unpE x) := by rw [List.getElem?_map, hx]; rfl
      by_cases e0 : unpE x = 0
      · have hu : ∀ w, AL w → Calls Tryz.prog 39 #[.int .u64 (x : Int)] w fun e w' => e = .returned (.tuple #[.agg #[.int .i64 (eK x), .int .i64 (eN x), .bool (eA x), .bool (eB x), .bool (eC x)], .int .i64 0]) ∧ Below w.heap.size w w' := fun w ha => by
          have := Unpack_any x w ha hx64
          unfold unpV entV at this
          rw [e0, if_pos rfl] at this
          exact this
        have HN : Hid (∀ y ∈ (es.map unpE).take (k + 1), y = 0) := take_zero HR.out (by rw [hxe, e0])
        have hl0 : ((es.take k).map entOf).length = k := by rw [List.length_map, List.length_take, HL.out]; omega
        have hl1 : (es.take k).map entOf ++ [entOf x] = (es.take (k + 1)).map entOf := by
          obtain ⟨hk', e⟩ := List.getElem?_eq_some_iff.1 hx
          rw [List.take_succ_eq_append_getElem hk', e]
          simp
        have hl2 : ((es.take (k + 1)).map entOf).length = k + 1 := by rw [List.length_map, List.length_take, HL.out]; omega
        have hO : OwnR entE wr W1.heap.size (.slice A ((es.take k).map entOf).length c) ((es.take k).map entOf) := by rw [hl0]; exact HO.out
        generalize (es.take k).map entOf = l at hl0 hl1 hO
        obtain ⟨l', hl'⟩ : ∃ l', (es.take (k + 1)).map entOf = l' := ⟨_, rfl⟩
        rw [hl'] at hl1 hl2
        have HLL := Lib.hid hl'
        clear hl'
        have H0 := Lib.hid hl0; have H1 := Lib.hid hl1; have H2 := Lib.hid hl2; have HOO := Lib.hid hO
        clear hxe hx e0 HO HR hl0 hl1 hl2 hO
        go_wp2_with (first
          | (go_at_call 39; refine (hu _ (wra.ext (by repeat' (first | with_reducible exact Below.refl _ _ | with_reducible assumption | with_reducible apply Below.drew | with_reducible apply below_drewN | with_reducible apply Below.alloc | with_reducible apply Below.setCell | (with_reducible refine Below.trans ?_ (Below.mono (by assumption) ?_)) | (simp; done) | (simp; omega) | omega | with_reducible apply le_size_alloc | with_reducible apply le_size_drewN | with_reducible apply le_size_drew | with_reducible apply le_size_setCell | refine Nat.le_trans ?_ (Below.size (by assumption)))))).mono ?_; rintro e w1 ⟨rfl, hb1⟩; have hz1 := hb1.size)
          | (at_builtin; refine wpList_ownR entE rfl (.tmp 23) (.tmp 25) _ rfl rfl _ W1.heap.size (by simp; omega) A c k l H0.out.symm (HOO.out.ext (by repeat' (first | with_reducible exact Below.refl _ _ | with_reducible assumption | with_reducible apply Below.drew | with_reducible apply below_drewN | with_reducible apply Below.alloc | with_reducible apply Below.setCell | (with_reducible refine Below.trans ?_ (Below.mono (by assumption) ?_)) | (simp; done) | (simp; omega) | omega | with_reducible apply le_size_alloc | with_reducible apply le_size_drewN | with_reducible apply le_size_drew | with_reducible apply le_size_setCell | refine Nat.le_trans ?_ (Below.size (by assumption))))) (some ⟨w1.heap.size + 1, 0, none⟩) 1 1 [entOf x] rfl (SR.of_blk (E := entE) (l := [entOf x]) (t := 63) (Blk.new_ (by simp) rfl)) (by simp) (by simp; have := H0.out; omega) rfl rfl ?_; rw [H1.out]; intro A5 c5 w5 hO5 hb5 hg5; rw [H2.out] at hO5 ⊢))
        go_roundw
        case rel => exact ⟨k + 1, A5, c5, by omega, by go_num, rfl, by rw [HLL.out]; exact hO5, HN.out, (by repeat' (first | with_reducible exact Below.refl _ _ | with_reducible assumption | with_reducible apply Below.drew | with_reducible apply below_drewN | with_reducible apply Below.alloc | with_reducible apply Below.setCell | (with_reducible refine Below.trans ?_ (Below.mono (by assumption) ?_)) | (simp; done) | (simp; omega) | omega | with_reducible apply le_size_alloc | with_reducible apply le_size_drewN | with_reducible apply le_size_drew | with_reducible apply le_size_setCell | refine Nat.le_trans ?_ (Below.size (by assumption))))⟩
        case measure => simp [intOf]; omega
      · have hu : ∀ w, AL w → Calls Tryz.prog 39 #[.int .u64 (x : Int)] w fun e w' => e = .returned (.tuple #[.agg #[.int .i64 0, .int .i64 0, .bool false, .bool false, .bool false], .int .i64 (unpE x)]) ∧ Below w.heap.size w w' := fun w ha => by
          have := Unpack_any x w ha hx64
          unfold unpV entV at this
          rw [if_neg e0] at this
          exact this
        have hzu : z = unpE x := by rw [← HZ.out]; exact fstNZ_at HR.out hxe e0
        generalize unpE x = u at *
        subst hzu
        have hub : (z != 0) = true := by simpa using e0
        have HE : Hid (z ≠ 0) := e0
        clear hxe hx e0 HO HR
        go_wp2_with (go_at_call 39; refine (hu _ (wra.ext (by repeat' (first | with_reducible exact Below.refl _ _ | with_reducible assumption | with_reducible apply Below.drew | with_reducible apply below_drewN | with_reducible apply Below.alloc | with_reducible apply Below.setCell | (with_reducible refine Below.trans ?_ (Below.mono (by assumption) ?_)) | (simp; done) | (simp; omega) | omega | with_reducible apply le_size_alloc | with_reducible apply le_size_drewN | with_reducible apply le_size_drew | with_reducible apply le_size_setCell | refine Nat.le_trans ?_ (Below.size (by assumption)))))).mono ?_; rintro e w1 ⟨rfl, hb1⟩; have hz1 := hb1.size)
        refine bodyPost_ret (v := .tuple #[.slice none 0 0, .int .i64 z]) (by simp [results, Tryz.results48, go_sem]) rfl ?_
        refine HP _ _ ⟨⟨none, 0, by rw [if_neg HE.out], fun h => absurd h HE.out⟩, (by repeat' (first | with_reducible exact Below.refl _ _ | with_reducible assumption | with_reducible apply Below.drew | with_reducible apply below_drewN | with_reducible apply Below.alloc | with_reducible apply Below.setCell | (with_reducible refine Below.trans ?_ (Below.mono (by assumption) ?_)) | (simp; done) | (simp; omega) | omega | with_reducible apply le_size_alloc | with_reducible apply le_size_drewN | with_reducible apply le_size_drew | with_reducible apply le_size_setCell | refine Nat.le_trans ?_ (Below.size (by assumption))))⟩
    · obtain rfl : k = 64 := by omega
      have hzz : z = 0 := by
        rw [← HZ.out]
        have := HR.out
        rw [List.take_of_length_le (by rw [List.length_map, HL.out]; omega)] at this
        exact fstNZ_all this
      have hO := HO.out
      rw [List.take_of_length_le (by rw [HL.out]; omega)] at hO
      have HOO := Lib.hid hO
      subst hzz
      clear HO HR hO hlt
      go_wp2
      refine bodyPost_ret (v := .tuple #[.slice A 64 c, .int .i64 0]) (by simp [results, Tryz.results48, go_sem]) rfl ?_
      exact HP _ _ ⟨⟨A, c, by simp, fun _ => (OwnR.sr HOO.out).2⟩, (by repeat' (first | with_reducible exact Below.refl _ _ | with_reducible assumption | with_reducible apply Below.drew | with_reducible apply below_drewN | with_reducible apply Below.alloc | with_reducible apply Below.setCell | (with_reducible refine Below.trans ?_ (Below.mono (by assumption) ?_)) | (simp; done) | (simp; omega) | omega | with_reducible apply le_size_alloc | with_reducible apply le_size_drewN | with_reducible apply le_size_drew | with_reducible apply le_size_setCell | refine Nat.le_trans ?_ (Below.size (by assumption))))⟩
end Go.Proofs.YtmbpjafiinfkkaaGreatDoor
