/- A slice literal of structs; a whole struct stored; headgatelaw34: proc, config. No statement is proved here. -/
/- headgatelaw34: config, three, victim, yields, awake. Written by gen_ow2.py. No statement is proved here. -/
/- headgatelaw34.awake. Written by gen_ow3.py. No statement is proved here. -/
/- headgatelaw34.OomKnown's walk. Written by gen_lok.py. No statement is proved here. -/
import Derived.Test.YtmbpjafiinfkkaaGreatDoorOP3
import Derived.Laws.CopyOwn
import Derived.Great.BuildSlice
import Derived.Test.YtmbpjafiinfkkaaGreatDoorOM2
import Derived.Test.YtmbpjafiinfkkaaGreatDoorOY2
import Derived.Test.YtmbpjafiinfkkaaGreatDoorOK
import Derived.Test.YtmbpjafiinfkkaaGreatDoorOT3
import Derived.Test.YtmbpjafiinfkkaaGreatDoorKitS
namespace Go.Proofs.YtmbpjafiinfkkaaGreatDoor
set_option linter.unusedSimpArgs false
set_option linter.unusedVariables false
open Go.RowKit Go.Maps

/-- A slice literal of structs. -/
theorem run_buildE {P : Program} {α : Type} (E : Elt P α) (l : List α) (val : α → Value) (hv : ∀ x, (val x).cells = (E.enc x).toArray) (w : World) (parts : Array (Nat × Value)) (hp : parts.toList = ((l.map val).zipIdx 0).map fun x => (x.2, x.1)) (hpos : 0 < l.length) (hl : l.length ≤ 1000) :
    (Instr.buildSlice E.s l.length parts).run P w = .ok (.slice (some ⟨w.heap.size, 0, none⟩) l.length l.length) (w.alloc (.cells (E.flat l).toArray E.e)) := by
  obtain ⟨i0, hi, hz0, hz1, hz2⟩ := info_parts E.hi
  have hsz : ∀ v ∈ l.map val, v.cells.size = E.sz := fun v hv' => by
    obtain ⟨x, _, rfl⟩ := List.mem_map.1 hv'
    rw [hv, List.size_toArray, E.hlen]
  obtain ⟨r, hr, hrs, hrk⟩ := Go.Great.fill_dense (s := E.sz) E.pos (l.map val) 0 ((Array.range (l.length * E.sz)).map (E.z.cells[· % E.z.cells.size]!)) hsz (by simp)
  have hrf : r = (E.flat l).toArray := by
    apply Array.ext_getElem?
    intro k
    rw [hrk k]
    by_cases hk : k < l.length * E.sz
    · rw [if_pos (by simp; exact hk)]
      have hq : k / E.sz < l.length := Nat.div_lt_of_lt_mul (by rw [Nat.mul_comm]; exact hk)
      have hm : k % E.sz < E.sz := Nat.mod_lt _ E.pos
      have hx : l[k / E.sz]? = some l[k / E.sz] := List.getElem?_eq_getElem hq
      have h1 : (E.enc l[k / E.sz])[k % E.sz]? = some ((E.enc l[k / E.sz])[k % E.sz]'(by rw [E.hlen]; exact hm)) := List.getElem?_eq_getElem _
      have h2 := E.flat_at hx h1
      rw [show k / E.sz * E.sz + k % E.sz = k by rw [Nat.mul_comm]; exact Nat.div_add_mod k E.sz] at h2
      rw [List.getElem?_toArray, h2, Nat.sub_zero, List.getElem?_map, hx]
      simp only [Option.map_some, Option.bind_some, hv]
      rw [List.getElem?_toArray, h1]
    · rw [if_neg (by simp; omega)]
      have h1 : (E.flat l).toArray[k]? = none := by rw [List.getElem?_toArray]; exact List.getElem?_eq_none (by rw [E.flat_length]; omega)
      rw [h1]
      exact Array.getElem?_eq_none (by simp; omega)
  subst hrf
  have hf := E.few.2
  have h1 : l.length * E.sz ≤ 1000 * 1000 := Nat.mul_le_mul hl hf
  have h2 : 0 < l.length * E.sz := Nat.mul_pos hpos E.pos
  exact run_buildSlice w E.s E.e l.length parts _ i0 E.z E.hs hi hz0 (by rw [hz1]; omega) (by rw [hz1]; omega) (by rw [hz1, hp]; exact hr)

/-- A whole struct stored over a block of its size. -/
theorem wpList_storeB {P : Program} {ops : Array Oper} {rest : List Oper} {op : Oper} {a : Act} {Q : Exit → Act → World → Prop} {w : World} (hgd : op.guard = none) (ty : TypeId) (x y : Operand) (ho : op.op = .store ty x y) (g : Nat) (cells : Array Value) (hx : a.eval x = .pointer (some ⟨g, 0, none⟩)) (hy : a.eval y = .agg cells)
    (t : TypeId) (old : Array Value) (hB : Blk w g t old) (hi : (P.info? ty).map (·.size) = some cells.size) (hold : old.size = cells.size) (h1 : cells.all (·.oneCell') = true)
    (h : ∀ w', Blk w' g t cells → (∀ B, B ≤ g → Below B w w') → (∀ b t cs, b ≠ g → Blk w b t cs → Blk w' b t cs) → w'.heap.size = w.heap.size → wpList P ops Q rest (a.put op.dst undef) w') : wpList P ops Q (op :: rest) a w :=
  wpList_plain hgd fun _ hK => wp_store_row ty x y ho g cells hx hy t old hB hi hold h1 (hK _ _ (h _ (setRow_heap w g old cells t _ hB) (fun B hb => below_setRow (Below.refl _ _) hb cells) (fun b t cs hb hk => (setRow_other w g b cells hb).trans hk) (setRow_size w g cells)))

/-- The same of a block just made, its number said. -/
theorem wpList_store_newN {P : Program} {ops : Array Oper} {rest : List Oper} {op : Oper} {a : Act} {Q : Exit → Act → World → Prop} (w : World) (N : Nat) (hN : w.heap.size = N) (hgd : op.guard = none) (ty : TypeId) (x y : Operand) (ho : op.op = .store ty x y) (c c' : Array Value)
    (hx : a.eval x = .pointer (some ⟨N, 0, none⟩)) (hy : a.eval y = .agg c') (hi : (P.info? ty).map (·.size) = some c'.size) (hsz : c.size = c'.size) (h1 : c'.all (·.oneCell') = true)
    (h : wpList P ops Q rest (a.put op.dst undef) (w.alloc (.cells c' ty))) : wpList P ops Q (op :: rest) a (w.alloc (.cells c ty)) := by
  subst hN
  exact wpList_store_new w hgd ty x y ho c c' hx hy hi hsz h1 h

/-- A text and its entry. -/
structure Txt where
  s : ByteArray
  k : Nat
  n : Nat
  a : Bool
  b : Bool
  c : Bool
  ok : ∀ w, AL w → Calls Tryz.prog 55 #[.string s] w fun e w' => e = .returned (.tuple #[entV k n a b c, .int .i64 0]) ∧ Below w.heap.size w w'
  chk : chkE k n a b c = 0
def Txt.word (t : Txt) : Nat := packN t.k t.n t.a t.b t.c
def tNone : Txt := ⟨⟨#[45]⟩, 0, 0, false, false, false, fun w _ => parse_none w, by decide⟩
def tS2 : Txt := ⟨⟨#[115, 50]⟩, 2, 2, false, false, false, parse_s2, by decide⟩
def tS3 : Txt := ⟨⟨#[115, 51]⟩, 2, 3, false, false, false, parse_s3, by decide⟩
def tP1w : Txt := ⟨⟨#[112, 49, 119]⟩, 1, 1, true, false, false, parse_p1w, by decide⟩
def tP2c : Txt := ⟨⟨#[112, 50, 99]⟩, 1, 2, false, true, false, parse_p2c, by decide⟩
def tP1c : Txt := ⟨⟨#[112, 49, 99]⟩, 1, 1, false, true, false, parse_p1c, by decide⟩
def tP3w : Txt := ⟨⟨#[112, 51, 119]⟩, 1, 3, true, false, false, parse_p3w, by decide⟩
def tP4w : Txt := ⟨⟨#[112, 52, 119]⟩, 1, 4, true, false, false, parse_p4w, by decide⟩

/-- A process with an entry, a leaf turned. -/
def PV.setE (p : PV) (i x : Nat) : PV := { p with
  es := p.es.set i (x % 18446744073709551616)
  he := by rw [List.length_set]; exact p.he
  hw := fun y hy => by
    rcases List.mem_or_eq_of_mem_set hy with h | h
    · exact p.hw y h
    · rw [h]; exact Nat.mod_lt _ (by decide) }
def PV.setL (p : PV) (i : Nat) (n : Int) : PV := { p with
  lv := p.lv.set i n
  hl := by rw [List.length_set]; exact p.hl }
theorem setE_cells (p : PV) {i x : Nat} (hi : i < 64) (hx : x < 18446744073709551616) : (pvC p).toArray.setIfInBounds (11 + i) (.int .u64 (x : Int)) = (pvC (p.setE i x)).toArray := by
  rw [List.setIfInBounds_toArray]
  congr 1
  have e : pvC (p.setE i x) = .int .i64 p.st :: .int .i64 p.root :: (p.lv.map (fun n => .int .i64 n) ++ (.slice p.rA p.rN p.rC :: (p.es.set i x).map (fun x : Nat => .int .u64 (x : Int)))) := by
    show (_ :: _ :: (_ ++ (_ :: (p.es.set i (x % 18446744073709551616)).map _)) : List Value) = _
    rw [Nat.mod_eq_of_lt hx]
    rfl
  rw [e]
  unfold pvC
  rw [show 11 + i = (8 + (i + 1)) + 1 + 1 by omega, List.set_cons_succ, List.set_cons_succ]
  congr 2
  rw [List.set_append_right _ _ (by simp [p.hl]), List.length_map, p.hl, show 8 + (i + 1) - 8 = i + 1 by omega, List.set_cons_succ, ← List.map_set]
theorem setL_cells (p : PV) {i : Nat} {n : Int} (hi : i < 8) : (pvC p).toArray.setIfInBounds (2 + i) (.int .i64 n) = (pvC (p.setL i n)).toArray := by
  rw [List.setIfInBounds_toArray]
  congr 1
  have e : pvC (p.setL i n) = .int .i64 p.st :: .int .i64 p.root :: ((p.lv.set i n).map (fun n => .int .i64 n) ++ (.slice p.rA p.rN p.rC :: p.es.map (fun x : Nat => .int .u64 (x : Int)))) := rfl
  rw [e]
  unfold pvC
  rw [show 2 + i = i + 1 + 1 by omega, List.set_cons_succ, List.set_cons_succ]
  congr 2
  rw [List.set_append_left _ _ (by simp [p.hl]; exact hi), ← List.map_set]
theorem setS_cells (p : PV) (n : Int) : (pvC p).toArray.setIfInBounds 0 (.int .i64 n) = (pvC { p with st := n }).toArray := by
  rw [List.setIfInBounds_toArray]; rfl
theorem setR_cells (p : PV) (n : Int) : (pvC p).toArray.setIfInBounds 1 (.int .i64 n) = (pvC { p with root := n }).toArray := by
  rw [List.setIfInBounds_toArray]; rfl
/-- No entry, root 0, no leaf. -/
def pv0 : PV := ⟨1, 0, List.replicate 8 (-1), none, 0, 0, List.replicate 64 0, by simp, by simp, fun x hx => by rw [List.eq_of_mem_replicate hx]; decide⟩
/-- Its first entries are those of texts. -/
def prcF (ts : List Txt) : Nat → PV
  | 0 => pv0
  | k + 1 => match ts[k]? with
    | some t => (prcF ts k).setE k t.word
    | none => prcF ts k
def prcT (ts : List Txt) : PV := prcF ts ts.length
theorem prcF_next {ts : List Txt} {k : Nat} {t : Txt} (h : ts[k]? = some t) : prcF ts (k + 1) = (prcF ts k).setE k t.word := by
  show (match ts[k]? with | some t => (prcF ts k).setE k t.word | none => prcF ts k) = _
  rw [h]
theorem packN_lt {k n : Nat} {a b c : Bool} (h : chkE k n a b c = 0) : packN k n a b c < 65536 := by
  have hk : k < 4 := by
    rcases Nat.lt_or_ge k 4 with h' | h'
    · exact h'
    · unfold chkE at h; rw [if_pos (by omega)] at h; simp at h
  have hn : n < 256 := by
    rcases Nat.lt_or_ge n 256 with h' | h'
    · exact h'
    · unfold chkE at h
      split at h
      · simp at h
      · rw [if_pos (by omega)] at h; simp at h
  have := flgT_lt a b c
  unfold packN
  omega
theorem built0 : Tryz.prog.built 41 [(0, .int .i64 1), (2, .agg #[.int .i64 (-1), .int .i64 (-1), .int .i64 (-1), .int .i64 (-1), .int .i64 (-1), .int .i64 (-1), .int .i64 (-1), .int .i64 (-1)])] = some (pvC pv0).toArray := by kernel_rfl
theorem lit0 : (((((((((Tryz.zeroCells41.setIfInBounds 0 (.int .i64 1)).setIfInBounds 2 (.int .i64 (-1))).setIfInBounds 3 (.int .i64 (-1))).setIfInBounds 4 (.int .i64 (-1))).setIfInBounds 5 (.int .i64 (-1))).setIfInBounds 6 (.int .i64 (-1))).setIfInBounds 7 (.int .i64 (-1))).setIfInBounds 8 (.int .i64 (-1))).setIfInBounds 9 (.int .i64 (-1))) = (pvC pv0).toArray := by kernel_rfl
theorem zc75 : Tryz.zeroCells41.size = 75 := by kernel_rfl
theorem Txt.word_lt (t : Txt) : t.word < 65536 := packN_lt t.chk
/-- An entry stored in a process. -/
theorem Blk.setE {p : PV} {w : World} {b : Nat} {t : TypeId} (h : Blk w b t (pvC p).toArray) {i x : Nat} (hi : i < 64) (hx : x < 18446744073709551616) : Blk (w.setCell ⟨b, 11 + i, none⟩ (.int .u64 (x : Int))) b t (pvC (p.setE i x)).toArray := by
  rw [← setE_cells p hi hx]
  exact h.set_ _ _
theorem pv_cell (p : PV) {i x : Nat} (h : p.es[i]? = some x) {w : World} {b : Nat} {t : TypeId} (hB : Blk w b t (pvC p).toArray) : w.cell? ⟨b, 11 + i, none⟩ = some (.int .u64 (x : Int)) := by
  rw [hB.cell_, List.getElem?_toArray]
  exact pvC_ent p h

set_option maxRecDepth 100000 in
set_option maxHeartbeats 8000000 in
theorem proc_any (A : Option Addr) (c : Nat) (ts : List Txt) (w : World) (hal : AL w) (hs : Sl w (fun t : Txt => .string t.s) A ts) (hl : ts.length ≤ 64) :
    Calls Tryz.prog 29 #[.slice A ts.length c] w fun e w' => e = .returned (pvV (prcT ts)) ∧ Below w.heap.size w w' := by
  have HS := Lib.hid hs
  have HAL := Lib.hid hal
  clear hs hal
  have h0 := lit0
  obtain ⟨V1, hV1⟩ : ∃ V1, (w.alloc (.cells Tryz.zeroCells41 41)).alloc (.cells (pvC pv0).toArray 41) = V1 := ⟨_, rfl⟩
  have BV : Below w.heap.size w V1 := by rw [← hV1]; exact (by repeat' (first | with_reducible exact Below.refl _ _ | with_reducible assumption | with_reducible apply Below.drew | with_reducible apply below_drewN | with_reducible apply Below.alloc | with_reducible apply Below.setCell | (with_reducible refine Below.trans ?_ (Below.mono (by assumption) ?_)) | (simp; done) | (simp; omega) | omega | with_reducible apply le_size_alloc | with_reducible apply le_size_drewN | with_reducible apply le_size_drew | with_reducible apply le_size_setCell | refine Nat.le_trans ?_ (Below.size (by assumption))))
  have kR : Blk V1 w.heap.size 41 Tryz.zeroCells41 := by rw [← hV1]; exact (Blk.new_ rfl rfl).alloc_ _
  have kP : Blk V1 (w.heap.size + 1) 41 (pvC pv0).toArray := by rw [← hV1]; exact Blk.new_ (by simp) rfl
  have hbase : w.heap.size + 1 < V1.heap.size := kP.lt
  go_enter Tryz.func29, Tryz.ntmps29
  go_wp2_with (refine wpList_store_newN _ (w.heap.size + 1) (by simp) rfl 41 _ _ rfl _ _ rfl rfl (sz75' pv0) (by rw [zc75]; exact size75 pv0) (all75 pv0) ?_)
  clear hV1 h0
  go_loopw [4] (fun i wr => ∃ k : Nat, k ≤ ts.length ∧ i = .int .i64 k ∧ Hid (Blk wr w.heap.size 41 Tryz.zeroCells41) ∧ Hid (Blk wr (w.heap.size + 1) 41 (pvC (prcF ts k)).toArray) ∧ Below w.heap.size w wr) (fun i _ => ts.length - (intOf i).toNat)
  case atStart => exact ⟨0, by omega, rfl, kR, kP, BV⟩
  case round =>
    obtain ⟨k, hk, rfl, HR, HP, hbw⟩ := hrel
    have wra : AL wr := HAL.out.ext hbw
    have zw := HP.out.lt
    by_cases hlt : k < ts.length
    · obtain ⟨b, off, t, rfl, hbl, hx, hc⟩ := (HS.out.ext hbw).at_ hlt
      have i1 : (k : Int) < ts.length := by omega
      have i2 : (k : Int) < 64 := by omega
      have hn := prcF_next hx
      have HN := Lib.hid hn
      have hpk := fun w ha => Pack_any t.k t.n t.a t.b t.c w ha t.chk
      have hwd : packN t.k t.n t.a t.b t.c < 18446744073709551616 := by have := t.word_lt; unfold Txt.word at this; omega
      unfold entV at hpk
      have hpa := t.ok
      unfold entV at hpa
      obtain ⟨x, hxe⟩ : ∃ x, (prcF ts k).es[k]? = some x := ⟨_, List.getElem?_eq_getElem (by rw [(prcF ts k).he]; omega)⟩
      clear hx hn
      go_wp2_with (first
        | (go_at_call 55; refine (hpa _ (wra.ext (by repeat' (first | with_reducible exact Below.refl _ _ | with_reducible assumption | with_reducible apply Below.drew | with_reducible apply below_drewN | with_reducible apply Below.alloc | with_reducible apply Below.setCell | (with_reducible refine Below.trans ?_ (Below.mono (by assumption) ?_)) | (simp; done) | (simp; omega) | omega | with_reducible apply le_size_alloc | with_reducible apply le_size_drewN | with_reducible apply le_size_drew | with_reducible apply le_size_setCell | refine Nat.le_trans ?_ (Below.size (by assumption)))))).mono ?_; rintro e w1 ⟨rfl, hb1⟩; have zz1 := hb1.size)
        | (go_at_call 56; refine (hpk _ (wra.ext (by repeat' (first | with_reducible exact Below.refl _ _ | with_reducible assumption | with_reducible apply Below.drew | with_reducible apply below_drewN | with_reducible apply Below.alloc | with_reducible apply Below.setCell | (with_reducible refine Below.trans ?_ (Below.mono (by assumption) ?_)) | (simp; done) | (simp; omega) | omega | with_reducible apply le_size_alloc | with_reducible apply le_size_drewN | with_reducible apply le_size_drew | with_reducible apply le_size_setCell | refine Nat.le_trans ?_ (Below.size (by assumption)))))).mono ?_; rintro e w2 ⟨rfl, hb2⟩; have zz2 := hb2.size; have B2 : Below wr.heap.size wr w2 := (by repeat' (first | with_reducible exact Below.refl _ _ | with_reducible assumption | with_reducible apply Below.drew | with_reducible apply below_drewN | with_reducible apply Below.alloc | with_reducible apply Below.setCell | (with_reducible refine Below.trans ?_ (Below.mono (by assumption) ?_)) | (simp; done) | (simp; omega) | omega | with_reducible apply le_size_alloc | with_reducible apply le_size_drewN | with_reducible apply le_size_drew | with_reducible apply le_size_setCell | refine Nat.le_trans ?_ (Below.size (by assumption)))); have kP2 := HP.out.below_ B2 zw; have kR2 := HR.out.below_ B2 (by omega); have cc := pv_cell _ hxe kP2; have ff := kP2.frozen_ (11 + k)))
      go_roundw
      case rel =>
        refine ⟨k + 1, by omega, by go_num, ?_, ?_, (by repeat' (first | with_reducible exact Below.refl _ _ | with_reducible assumption | with_reducible apply Below.drew | with_reducible apply below_drewN | with_reducible apply Below.alloc | with_reducible apply Below.setCell | (with_reducible refine Below.trans ?_ (Below.mono (by assumption) ?_)) | (simp; done) | (simp; omega) | omega | with_reducible apply le_size_alloc | with_reducible apply le_size_drewN | with_reducible apply le_size_drew | with_reducible apply le_size_setCell | refine Nat.le_trans ?_ (Below.size (by assumption))))⟩
        · show Blk _ _ _ _; exact kR2.far_ (by simp) _
        · show Blk _ _ _ _; rw [HN.out]; exact kP2.setE (by omega) hwd
      case measure => simp [intOf]; omega
    · obtain rfl : k = ts.length := by omega
      have hRg : wr.rangeAt (w.heap.size + 1) 0 (pvC (prcF ts ts.length)) := HP.out.rangePV
      clear hlt
      go_wp2_with (first
        | (refine wpList_load_mid rfl 41 _ rfl (w.heap.size + 1) 0 rfl (pvC (prcF ts ts.length)) _ hRg Tryz.underlying41 rfl (sz75 _) ?_)
        | (refine wpList_storeB rfl 41 _ _ rfl w.heap.size _ rfl rfl _ _ HR.out (sz75' _) (by rw [zc75]; exact size75 _) (all75 _) ?_; intro w5 hk5 hb5 hf5 hs5))
      refine bodyPost_ret (v := .agg (pvC (prcF ts ts.length)).toArray) (results_cell_row Tryz.results29 _ _ w.heap.size _ _ _ _ rfl hk5 Tryz.underlying41 rfl (sz75' _)) rfl ?_
      exact ⟨rfl, hbw.trans (hb5 _ (Nat.le_refl _))⟩
end Go.Proofs.YtmbpjafiinfkkaaGreatDoor
namespace Go.Proofs.YtmbpjafiinfkkaaGreatDoor
set_option linter.unusedSimpArgs false
set_option linter.unusedVariables false
open Go.RowKit Go.Maps

/-- proc at a literal of texts. -/
theorem proc_lit (ts : List Txt) (w : World) (hal : AL w) (h1 : ts.length ≤ 64) : Calls Tryz.prog 29 #[.slice (some ⟨w.heap.size, 0, none⟩) ts.length ts.length] (w.alloc (.cells (ts.map fun t => .string t.s).toArray 9)) fun e w' => e = .returned (.agg (pvC (prcT ts)).toArray) ∧ Below w.heap.size w w' :=
  (proc_any _ _ ts _ (hal.ext ((Below.refl _ _).alloc (Nat.le_refl _) _)) (Sl.of_lit (Blk.new_ rfl rfl)) h1).mono fun e w' h => ⟨h.1, ((Below.refl _ _).alloc (Nat.le_refl _) _).trans (h.2.mono (by simp))⟩
theorem proc_none (w : World) (hal : AL w) : Calls Tryz.prog 29 #[.slice none 0 0] w fun e w' => e = .returned (.agg (pvC pv0).toArray) ∧ Below w.heap.size w w' :=
  (proc_any none 0 [] w hal Sl.nil (by simp)).mono fun e w' h => ⟨h.1, h.2⟩
/-- A slice literal of processes. -/
theorem run_buildP (l : List PV) (w : World) (parts : Array (Nat × Value)) (hp : parts.toList = ((l.map pvV).zipIdx 0).map fun x => (x.2, x.1)) (hpos : 0 < l.length) (hl : l.length ≤ 1000) :
    (Instr.buildSlice 22 l.length parts).run Tryz.prog w = .ok (.slice (some ⟨w.heap.size, 0, none⟩) l.length l.length) (w.alloc (.cells (procE.flat l).toArray 41)) :=
  run_buildE procE l pvV (fun _ => rfl) w parts hp hpos hl
theorem wpList_buildP {ops : Array Oper} {rest : List Oper} {o : Oper} {a : Act} {w : World} {Q : Exit → Act → World → Prop} (hg : o.guard = none) (n : Nat) (parts : Array (Nat × Operand)) (ho : o.op = .buildSlice 22 n parts) (l : List PV) (hn : l.length = n)
    (hp : parts.toList.map (fun x => (x.1, a.eval x.2)) = ((l.map pvV).zipIdx 0).map fun x => (x.2, x.1)) (hpos : 0 < l.length) (hl : l.length ≤ 1000)
    (h : wpList Tryz.prog ops Q rest (a.put o.dst (.slice (some ⟨w.heap.size, 0, none⟩) n n)) (w.alloc (.cells (procE.flat l).toArray 41))) : wpList Tryz.prog ops Q (o :: rest) a w := by
  subst hn
  refine wpList_plain hg fun _ hK => ?_
  unfold Oper.wp execOp
  simp only [ho, Sem.run_bind, run_buildP l w (parts.map fun (i, x) => (i, a.eval x)) (by rw [Array.toList_map]; exact hp) hpos hl, Result.andThen_ok]
  exact hK _ _ h

set_option maxRecDepth 100000 in
set_option maxHeartbeats 1000000 in
theorem config_any (w : World) : Calls Tryz.prog 32 #[] w fun e w' => e = .returned (cfgV 128 16 20 3 8 4 8 16 32) ∧ Below w.heap.size w w' := by
  unfold cfgV
  go_enter Tryz.func32, Tryz.ntmps32
  have kb : Blk (w.alloc (.cells #[.int .i64 0, .int .i64 0, .int .i64 0, .int .i64 0, .int .i64 0, .int .i64 0, .int .i64 0, .int .i64 0, .int .i64 0] 46)) w.heap.size 46 #[.int .i64 0, .int .i64 0, .int .i64 0, .int .i64 0, .int .i64 0, .int .i64 0, .int .i64 0, .int .i64 0, .int .i64 0] := Blk.new_ rfl rfl

  have k2 := (((((((((kb.set_ 0 (.int .i64 128)).set_ 1 (.int .i64 16)).set_ 2 (.int .i64 20)).set_ 3 (.int .i64 3)).set_ 4 (.int .i64 8)).set_ 5 (.int .i64 4)).set_ 6 (.int .i64 8)).set_ 7 (.int .i64 16)).set_ 8 (.int .i64 32))
  have c0 := k2.cell_ 0
  have c1 := k2.cell_ 1
  have c2 := k2.cell_ 2
  have c3 := k2.cell_ 3
  have c4 := k2.cell_ 4
  have c5 := k2.cell_ 5
  have c6 := k2.cell_ 6
  have c7 := k2.cell_ 7
  have c8 := k2.cell_ 8
  simp at c0 c1 c2 c3 c4 c5 c6 c7 c8
  clear k2 kb
  go_wp2
  refine bodyPost_ret (v := .agg #[.int .i64 128, .int .i64 16, .int .i64 20, .int .i64 3, .int .i64 8, .int .i64 4, .int .i64 8, .int .i64 16, .int .i64 32]) (by simp [results, Tryz.results32, go_sem, c0, c1, c2, c3, c4, c5, c6, c7, c8]) rfl ?_
  exact ⟨rfl, (by repeat' (first | with_reducible exact Below.refl _ _ | with_reducible assumption | with_reducible apply Below.drew | with_reducible apply below_drewN | with_reducible apply Below.alloc | with_reducible apply Below.setCell | (with_reducible refine Below.trans ?_ (Below.mono (by assumption) ?_)) | (simp; done) | (simp; omega) | omega | with_reducible apply le_size_alloc | with_reducible apply le_size_drewN | with_reducible apply le_size_drew | with_reducible apply le_size_setCell | refine Nat.le_trans ?_ (Below.size (by assumption))))⟩

def threeL : List PV := [prcT [tP1c, tS2], prcT [tP1c, tP3w], prcT [tP4w]]
set_option maxRecDepth 100000 in
set_option maxHeartbeats 2000000 in
theorem three_any (w : World) (hal : AL w) : Calls Tryz.prog 30 #[] w fun e w' => (∃ b, e = .returned (.slice (some ⟨b, 0, none⟩) 3 3) ∧ CR procE w' (some ⟨b, 0, none⟩) 3 threeL) ∧ Below w.heap.size w w' := by
  have HAL := Lib.hid hal
  clear hal
  have h1 : ∀ w, AL w → Calls Tryz.prog _ #[.slice (some ⟨w.heap.size, 0, none⟩) 2 2] _ _ := fun w ha => proc_lit [tP1c, tS2] w ha (by decide)
  have h2 : ∀ w, AL w → Calls Tryz.prog _ #[.slice (some ⟨w.heap.size, 0, none⟩) 2 2] _ _ := fun w ha => proc_lit [tP1c, tP3w] w ha (by decide)
  have h3 : ∀ w, AL w → Calls Tryz.prog _ #[.slice (some ⟨w.heap.size, 0, none⟩) 1 1] _ _ := fun w ha => proc_lit [tP4w] w ha (by decide)
  unfold threeL
  generalize prcT [tP1c, tS2] = p1 at *
  generalize prcT [tP1c, tP3w] = p2 at *
  generalize prcT [tP4w] = p3 at *
  go_enter Tryz.func30, Tryz.ntmps30
  go_wp2_with fail
  refine (h1 _ HAL.out).mono ?_
  rintro e w1 ⟨rfl, b1⟩
  clear h1
  go_wp2_with fail
  refine (h2 _ (HAL.out.ext b1)).mono ?_
  rintro e w2 ⟨rfl, b2⟩
  clear h2
  have B2 : Below w.heap.size w w2 := b1.trans (b2.mono b1.size)
  clear b1 b2
  go_wp2_with fail
  refine (h3 _ (HAL.out.ext B2)).mono ?_
  rintro e w3 ⟨rfl, b3⟩
  clear h3
  have B3 : Below w.heap.size w w3 := B2.trans (b3.mono B2.size)
  clear B2 b3
  go_wp2_with (refine wpList_buildP rfl 3 _ rfl [p1, p2, p3] rfl rfl (by simp) (by simp) ?_)
  refine bodyPost_ret (v := .slice (some ⟨w3.heap.size, 0, none⟩) 3 3) (by simp [results, Tryz.results30, go_sem]) rfl ?_
  exact ⟨⟨_, rfl, SR.of_blk (Blk.new_ rfl rfl), by simp⟩, (by repeat' (first | with_reducible exact Below.refl _ _ | with_reducible assumption | with_reducible apply Below.drew | with_reducible apply below_drewN | with_reducible apply Below.alloc | with_reducible apply Below.setCell | (with_reducible refine Below.trans ?_ (Below.mono (by assumption) ?_)) | (simp; done) | (simp; omega) | omega | with_reducible apply le_size_alloc | with_reducible apply le_size_drewN | with_reducible apply le_size_drew | with_reducible apply le_size_setCell | refine Nat.le_trans ?_ (Below.size (by assumption))))⟩

set_option maxRecDepth 100000 in
set_option maxHeartbeats 2000000 in
theorem victim_any (A : Option Addr) (c : Nat) (l : List PV) (n : Int) (B : Option Addr) (d : Nat) (sp : List Int) (w : World) (hal : AL w) (hs : SR procE w A l) (ll : l.length ≤ 1000) (hp : Sl w (.int .i64) B sp) (lp : sp.length ≤ 1000) (h1 : vicE l sp = 0) (h2 : vicI l sp = n) :
    Calls Tryz.prog 33 #[.slice A l.length c, .int .i64 n, .slice B sp.length d] w fun e w' => e = .returned (.bool true) ∧ Below w.heap.size w w' := by
  have hV := Victim_any A c l B d sp w hal hs ll hp lp
  rw [h1, h2] at hV
  clear hs hp h1 h2
  go_enter Tryz.func33, Tryz.ntmps33
  go_wp2_with fail
  refine hV.mono ?_
  rintro e w1 ⟨rfl, hb1⟩
  go_wp2
  refine bodyPost_ret (v := .bool true) (by simp [results, Tryz.results33, go_sem]) rfl ?_
  exact ⟨rfl, (by repeat' (first | with_reducible exact Below.refl _ _ | with_reducible assumption | with_reducible apply Below.drew | with_reducible apply below_drewN | with_reducible apply Below.alloc | with_reducible apply Below.setCell | (with_reducible refine Below.trans ?_ (Below.mono (by assumption) ?_)) | (simp; done) | (simp; omega) | omega | with_reducible apply le_size_alloc | with_reducible apply le_size_drewN | with_reducible apply le_size_drew | with_reducible apply le_size_setCell | refine Nat.le_trans ?_ (Below.size (by assumption))))⟩

set_option maxRecDepth 100000 in
set_option maxHeartbeats 2000000 in
theorem yields_any (n k : Int) (w : World) (hal : AL w) (h1 : yldE (threeL.take 2) n = 0) (h2 : yldI (threeL.take 2) n = k) :
    Calls Tryz.prog 34 #[.int .i64 n, .int .i64 k] w fun e w' => e = .returned (.bool true) ∧ Below w.heap.size w w' := by
  have HAL := Lib.hid hal
  have hT := three_any w hal
  have hY : ∀ b w', Below w.heap.size w w' → CR procE w' (some ⟨b, 0, none⟩) 3 threeL → Calls Tryz.prog 31 #[.slice (some ⟨b, 0, none⟩) 2 3, .int .i64 n] w' fun e w2 => e = .returned (.tuple #[.int .i64 k, .int .i64 0]) ∧ Below w'.heap.size w' w2 := fun b w' hb hc => by
    have := Yield_any (some ⟨b, 0, none⟩) 3 (threeL.take 2) n w' (HAL.out.ext hb) (hc.1.take 2) (by decide)
    rw [h1, h2] at this
    exact this
  clear hal h1 h2
  generalize threeL = L at *
  go_enter Tryz.func34, Tryz.ntmps34
  go_wp2_with fail
  refine hT.mono ?_
  rintro e w1 ⟨⟨b, rfl, hc⟩, hb1⟩
  have hY1 := hY b w1 hb1 hc
  clear hY hT hc
  go_wp2_with fail
  refine hY1.mono ?_
  rintro e w2 ⟨rfl, hb2⟩
  go_wp2
  refine bodyPost_ret (v := .bool true) (by simp [results, Tryz.results34, go_sem]) rfl ?_
  exact ⟨rfl, (by repeat' (first | with_reducible exact Below.refl _ _ | with_reducible assumption | with_reducible apply Below.drew | with_reducible apply below_drewN | with_reducible apply Below.alloc | with_reducible apply Below.setCell | (with_reducible refine Below.trans ?_ (Below.mono (by assumption) ?_)) | (simp; done) | (simp; omega) | omega | with_reducible apply le_size_alloc | with_reducible apply le_size_drewN | with_reducible apply le_size_drew | with_reducible apply le_size_setCell | refine Nat.le_trans ?_ (Below.size (by assumption))))⟩

theorem srt_simp (l k : List C2) (h : k.Pairwise fun x y => ltC y x = false) (hp : l.Perm k) : srtC l = k := by
  have h1 : (srtC l).Perm k := (List.mergeSort_perm l _).trans hp
  exact List.Perm.eq_of_pairwise (le := fun x y => ltC y x = false) (fun a b _ _ h1 h2 => totC a b h2 h1) (srtC_asc l) h h1
theorem awake_score : scoE (prcT [tP1w, tNone, tS3, tP2c]).es = 0 ∧ scoN (prcT [tP1w, tNone, tS3, tP2c]).es = 3 := by decide +kernel
def ranksL : List PV := [prcT [tP4w], prcT [tP1c, tS2], prcT [tP1c, tP3w]]
theorem awake_ranks : rnkE ranksL [] = 0 ∧ rnkL ranksL [] = [2, 3, 1] := by
  refine ⟨by decide +kernel, ?_⟩
  unfold rnkL
  rw [show candL ranksL [] = [(1, 1), (2, 2), (3, 2)] by decide +kernel, srt_simp _ [(2, 2), (3, 2), (1, 1)] (by decide) (by decide)]
  rfl
theorem three_cand : candL threeL [] = [(1, 2), (2, 2), (3, 1)] := by decide +kernel
theorem awake_victim : vicE threeL [] = 0 ∧ vicI threeL [] = 1 :=
  vic_some (by decide +kernel) (m := (1, 2)) (by rw [three_cand]; exact ⟨by decide, by decide⟩)
theorem awake_yields : yldE (threeL.take 2) 2 = 0 ∧ yldI (threeL.take 2) 2 = 2 := by decide +kernel
def talA : TL := ⟨0, 1, 2, 3, false, 0, 0, 0, 0, false, 0, 1, 0, 0, 0⟩
theorem awake_tally : chkT talA = 0 ∧ allB talA = true := by decide +kernel
theorem awake_K : fitE 128 16 20 3 8 4 8 16 32 = 0 ∧ kN 8 4 = 87 ∧ safeE 0 61 = 0 ∧ safeB 128 20 87 61 = true := by decide +kernel

end Go.Proofs.YtmbpjafiinfkkaaGreatDoor
namespace Go.Proofs.YtmbpjafiinfkkaaGreatDoor
set_option linter.unusedSimpArgs false
set_option linter.unusedVariables false
open Go.RowKit Go.Maps

set_option maxRecDepth 100000 in
set_option maxHeartbeats 8000000 in
theorem awake_any (w : World) (hal : AL w) : Calls Tryz.prog 10 #[] w fun e w' => e = .returned (.bool true) ∧ Below w.heap.size w w' := by
  have HAL := Lib.hid hal
  clear hal
  have h0 : ∀ w, AL w → Calls Tryz.prog _ #[.slice (some ⟨w.heap.size, 0, none⟩) 4 4] _ _ := fun w ha => proc_lit [tP1w, tNone, tS3, tP2c] w ha (by decide)
  have h1 : ∀ w, AL w → Calls Tryz.prog _ #[.slice (some ⟨w.heap.size, 0, none⟩) 1 1] _ _ := fun w ha => proc_lit [tP4w] w ha (by decide)
  have h2 : ∀ w, AL w → Calls Tryz.prog _ #[.slice (some ⟨w.heap.size, 0, none⟩) 2 2] _ _ := fun w ha => proc_lit [tP1c, tS2] w ha (by decide)
  have h3 : ∀ w, AL w → Calls Tryz.prog _ #[.slice (some ⟨w.heap.size, 0, none⟩) 2 2] _ _ := fun w ha => proc_lit [tP1c, tP3w] w ha (by decide)
  have hSc : ∀ w, AL w → Calls Tryz.prog 20 #[pvV (prcT [tP1w, tNone, tS3, tP2c])] w fun e w' => e = .returned (.tuple #[.int .i64 3, .int .i64 0]) ∧ Below w.heap.size w w' := fun w ha => by
    have := Score_any (prcT [tP1w, tNone, tS3, tP2c]) w ha
    rw [awake_score.1, if_pos rfl, awake_score.2] at this
    exact this
  unfold pvV at hSc
  have hK : ∀ w, Calls Tryz.prog 25 #[cfgV 128 16 20 3 8 4 8 16 32] w fun e w' => e = .returned (.tuple #[.int .i64 87, .int .i64 0]) ∧ Below w.heap.size w w' := fun w => by
    have := K_any 128 16 20 3 8 4 8 16 32 w
    rw [awake_K.1, if_pos rfl, awake_K.2.1] at this
    exact this
  have hSf : ∀ w, Calls Tryz.prog 27 #[cfgV 128 16 20 3 8 4 8 16 32, .int .i64 61] w fun e w' => e = .returned (.tuple #[.bool true, .int .i64 0]) ∧ Below w.heap.size w w' := fun w => by
    have := Safe_any 128 16 20 3 8 4 8 16 32 61 w
    rw [awake_K.1, awake_K.2.2.1, if_pos rfl, awake_K.2.1, awake_K.2.2.2] at this
    exact this
  have hC := fun w => config_any w
  have hR : ∀ b w, AL w → SR procE w (some ⟨b, 0, none⟩) ranksL → Calls Tryz.prog 18 #[.slice (some ⟨b, 0, none⟩) 3 3, .slice none 0 0] w fun e w' => (∃ A c, e = .returned (.tuple #[.slice A 3 c, .int .i64 0]) ∧ Sl w' (.int .i64) A [2, 3, 1]) ∧ Below w.heap.size w w' := fun b w ha hs => by
    have := Ranks_any (some ⟨b, 0, none⟩) 3 ranksL none 0 [] w ha hs (by decide) Sl.nil (by simp)
    unfold RnkPost at this
    rw [awake_ranks.1, awake_ranks.2] at this
    exact this.mono fun e w' h => ⟨by obtain ⟨⟨A, c, h1, h2⟩, _⟩ := h; exact ⟨A, c, h1, h2 rfl⟩, h.2⟩
  have hT : ∀ w, Calls Tryz.prog 23 #[.agg (tlC talA)] w fun e w' => e = .returned (.tuple #[.bool true, .int .i64 0]) ∧ Below w.heap.size w w' := fun w => by
    have := Allowed_any talA (by unfold TOk talA; decide) w
    rw [awake_tally.1, awake_tally.2] at this
    exact this
  unfold tlC talA at hT
  dsimp only at hT
  have hV : ∀ b w, AL w → CR procE w (some ⟨b, 0, none⟩) 3 threeL → Calls Tryz.prog 33 #[.slice (some ⟨b, 0, none⟩) 3 3, .int .i64 1, .slice none 0 0] w fun e w' => e = .returned (.bool true) ∧ Below w.heap.size w w' := fun b w ha hs =>
    victim_any (some ⟨b, 0, none⟩) 3 threeL 1 none 0 [] w ha hs.1 (by decide) Sl.nil (by simp) awake_victim.1 awake_victim.2
  have hY : ∀ w, AL w → Calls Tryz.prog 34 #[.int .i64 2, .int .i64 2] w fun e w' => e = .returned (.bool true) ∧ Below w.heap.size w w' := fun w ha => yields_any 2 2 w ha awake_yields.1 awake_yields.2
  unfold ranksL at hR
  generalize prcT [tP1w, tNone, tS3, tP2c] = p0 at *
  generalize prcT [tP4w] = p1 at *
  generalize prcT [tP1c, tS2] = p2 at *
  generalize prcT [tP1c, tP3w] = p3 at *
  have h3t := fun w ha => three_any w ha
  generalize threeL = L at *
  generalize cfgV 128 16 20 3 8 4 8 16 32 = cfg at *
  have B : Below w.heap.size w w := Below.refl _ _
  go_enter Tryz.func10, Tryz.ntmps10
  go_wp2_with fail
  refine (h0 _ (HAL.out.ext B)).mono ?_
  rintro e x1 ⟨rfl, hb⟩
  have d : Below w.heap.size w x1 := by clear B; exact (by repeat' (first | with_reducible exact Below.refl _ _ | with_reducible assumption | with_reducible apply Below.drew | with_reducible apply below_drewN | with_reducible apply Below.alloc | with_reducible apply Below.setCell | (with_reducible refine Below.trans ?_ (Below.mono (by assumption) ?_)) | (simp; done) | (simp; omega) | omega | with_reducible apply le_size_alloc | with_reducible apply le_size_drewN | with_reducible apply le_size_drew | with_reducible apply le_size_setCell | refine Nat.le_trans ?_ (Below.size (by assumption))))
  have b : Below w.heap.size w x1 := B.trans (d.mono B.size)
  clear hb B d  h0
  have B := b
  clear b
  go_wp2_with fail
  refine (hSc _ (HAL.out.ext B)).mono ?_
  rintro e x2 ⟨rfl, hb⟩
  have d : Below x1.heap.size x1 x2 := by clear B; exact (by repeat' (first | with_reducible exact Below.refl _ _ | with_reducible assumption | with_reducible apply Below.drew | with_reducible apply below_drewN | with_reducible apply Below.alloc | with_reducible apply Below.setCell | (with_reducible refine Below.trans ?_ (Below.mono (by assumption) ?_)) | (simp; done) | (simp; omega) | omega | with_reducible apply le_size_alloc | with_reducible apply le_size_drewN | with_reducible apply le_size_drew | with_reducible apply le_size_setCell | refine Nat.le_trans ?_ (Below.size (by assumption))))
  have b : Below w.heap.size w x2 := B.trans (d.mono B.size)
  clear hb B d  hSc
  have B := b
  clear b
  go_wp2_with fail
  refine (hC _).mono ?_
  rintro e x3 ⟨rfl, hb⟩
  have d : Below x2.heap.size x2 x3 := by clear B; exact (by repeat' (first | with_reducible exact Below.refl _ _ | with_reducible assumption | with_reducible apply Below.drew | with_reducible apply below_drewN | with_reducible apply Below.alloc | with_reducible apply Below.setCell | (with_reducible refine Below.trans ?_ (Below.mono (by assumption) ?_)) | (simp; done) | (simp; omega) | omega | with_reducible apply le_size_alloc | with_reducible apply le_size_drewN | with_reducible apply le_size_drew | with_reducible apply le_size_setCell | refine Nat.le_trans ?_ (Below.size (by assumption))))
  have b : Below w.heap.size w x3 := B.trans (d.mono B.size)
  clear hb B d  
  have B := b
  clear b
  go_wp2_with fail
  refine (hK _).mono ?_
  rintro e x4 ⟨rfl, hb⟩
  have d : Below x3.heap.size x3 x4 := by clear B; exact (by repeat' (first | with_reducible exact Below.refl _ _ | with_reducible assumption | with_reducible apply Below.drew | with_reducible apply below_drewN | with_reducible apply Below.alloc | with_reducible apply Below.setCell | (with_reducible refine Below.trans ?_ (Below.mono (by assumption) ?_)) | (simp; done) | (simp; omega) | omega | with_reducible apply le_size_alloc | with_reducible apply le_size_drewN | with_reducible apply le_size_drew | with_reducible apply le_size_setCell | refine Nat.le_trans ?_ (Below.size (by assumption))))
  have b : Below w.heap.size w x4 := B.trans (d.mono B.size)
  clear hb B d  hK
  have B := b
  clear b
  go_wp2_with fail
  refine (hC _).mono ?_
  rintro e x5 ⟨rfl, hb⟩
  have d : Below x4.heap.size x4 x5 := by clear B; exact (by repeat' (first | with_reducible exact Below.refl _ _ | with_reducible assumption | with_reducible apply Below.drew | with_reducible apply below_drewN | with_reducible apply Below.alloc | with_reducible apply Below.setCell | (with_reducible refine Below.trans ?_ (Below.mono (by assumption) ?_)) | (simp; done) | (simp; omega) | omega | with_reducible apply le_size_alloc | with_reducible apply le_size_drewN | with_reducible apply le_size_drew | with_reducible apply le_size_setCell | refine Nat.le_trans ?_ (Below.size (by assumption))))
  have b : Below w.heap.size w x5 := B.trans (d.mono B.size)
  clear hb B d  
  have B := b
  clear b
  go_wp2_with fail
  refine (hSf _).mono ?_
  rintro e x6 ⟨rfl, hb⟩
  have d : Below x5.heap.size x5 x6 := by clear B; exact (by repeat' (first | with_reducible exact Below.refl _ _ | with_reducible assumption | with_reducible apply Below.drew | with_reducible apply below_drewN | with_reducible apply Below.alloc | with_reducible apply Below.setCell | (with_reducible refine Below.trans ?_ (Below.mono (by assumption) ?_)) | (simp; done) | (simp; omega) | omega | with_reducible apply le_size_alloc | with_reducible apply le_size_drewN | with_reducible apply le_size_drew | with_reducible apply le_size_setCell | refine Nat.le_trans ?_ (Below.size (by assumption))))
  have b : Below w.heap.size w x6 := B.trans (d.mono B.size)
  clear hb B d  hSf hC
  have B := b
  clear b
  go_wp2_with fail
  refine (h1 _ (HAL.out.ext B)).mono ?_
  rintro e x7 ⟨rfl, hb⟩
  have d : Below x6.heap.size x6 x7 := by clear B; exact (by repeat' (first | with_reducible exact Below.refl _ _ | with_reducible assumption | with_reducible apply Below.drew | with_reducible apply below_drewN | with_reducible apply Below.alloc | with_reducible apply Below.setCell | (with_reducible refine Below.trans ?_ (Below.mono (by assumption) ?_)) | (simp; done) | (simp; omega) | omega | with_reducible apply le_size_alloc | with_reducible apply le_size_drewN | with_reducible apply le_size_drew | with_reducible apply le_size_setCell | refine Nat.le_trans ?_ (Below.size (by assumption))))
  have b : Below w.heap.size w x7 := B.trans (d.mono B.size)
  clear hb B d  h1
  have B := b
  clear b
  go_wp2_with fail
  refine (h2 _ (HAL.out.ext B)).mono ?_
  rintro e x8 ⟨rfl, hb⟩
  have d : Below x7.heap.size x7 x8 := by clear B; exact (by repeat' (first | with_reducible exact Below.refl _ _ | with_reducible assumption | with_reducible apply Below.drew | with_reducible apply below_drewN | with_reducible apply Below.alloc | with_reducible apply Below.setCell | (with_reducible refine Below.trans ?_ (Below.mono (by assumption) ?_)) | (simp; done) | (simp; omega) | omega | with_reducible apply le_size_alloc | with_reducible apply le_size_drewN | with_reducible apply le_size_drew | with_reducible apply le_size_setCell | refine Nat.le_trans ?_ (Below.size (by assumption))))
  have b : Below w.heap.size w x8 := B.trans (d.mono B.size)
  clear hb B d  h2
  have B := b
  clear b
  go_wp2_with fail
  refine (h3 _ (HAL.out.ext B)).mono ?_
  rintro e x9 ⟨rfl, hb⟩
  have d : Below x8.heap.size x8 x9 := by clear B; exact (by repeat' (first | with_reducible exact Below.refl _ _ | with_reducible assumption | with_reducible apply Below.drew | with_reducible apply below_drewN | with_reducible apply Below.alloc | with_reducible apply Below.setCell | (with_reducible refine Below.trans ?_ (Below.mono (by assumption) ?_)) | (simp; done) | (simp; omega) | omega | with_reducible apply le_size_alloc | with_reducible apply le_size_drewN | with_reducible apply le_size_drew | with_reducible apply le_size_setCell | refine Nat.le_trans ?_ (Below.size (by assumption))))
  have b : Below w.heap.size w x9 := B.trans (d.mono B.size)
  clear hb B d  h3
  have B := b
  clear b
  go_wp2_with (refine wpList_buildP rfl 3 _ rfl [p1, p2, p3] rfl rfl (by simp) (by simp) ?_)
  refine (hR x9.heap.size _ (HAL.out.ext (by repeat' (first | with_reducible exact Below.refl _ _ | with_reducible assumption | with_reducible apply Below.drew | with_reducible apply below_drewN | with_reducible apply Below.alloc | with_reducible apply Below.setCell | (with_reducible refine Below.trans ?_ (Below.mono (by assumption) ?_)) | (simp; done) | (simp; omega) | omega | with_reducible apply le_size_alloc | with_reducible apply le_size_drewN | with_reducible apply le_size_drew | with_reducible apply le_size_setCell | refine Nat.le_trans ?_ (Below.size (by assumption))))) (SR.of_blk (Blk.new_ rfl rfl))).mono ?_
  rintro e x10 ⟨⟨A3, c3, rfl, hs⟩, hb⟩
  have d : Below x9.heap.size x9 x10 := by clear B; exact (by repeat' (first | with_reducible exact Below.refl _ _ | with_reducible assumption | with_reducible apply Below.drew | with_reducible apply below_drewN | with_reducible apply Below.alloc | with_reducible apply Below.setCell | (with_reducible refine Below.trans ?_ (Below.mono (by assumption) ?_)) | (simp; done) | (simp; omega) | omega | with_reducible apply le_size_alloc | with_reducible apply le_size_drewN | with_reducible apply le_size_drew | with_reducible apply le_size_setCell | refine Nat.le_trans ?_ (Below.size (by assumption))))
  have b : Below w.heap.size w x10 := B.trans (d.mono B.size)
  have HS : Hid (Sl x10 (.int .i64) A3 [2, 3, 1]) := hs
  clear hb B d  hR hs
  have B := b
  clear b
  go_wp2_with fail
  refine (hT _).mono ?_
  rintro e x11 ⟨rfl, hb⟩
  have d : Below x10.heap.size x10 x11 := by clear B; exact (by repeat' (first | with_reducible exact Below.refl _ _ | with_reducible assumption | with_reducible apply Below.drew | with_reducible apply below_drewN | with_reducible apply Below.alloc | with_reducible apply Below.setCell | (with_reducible refine Below.trans ?_ (Below.mono (by assumption) ?_)) | (simp; done) | (simp; omega) | omega | with_reducible apply le_size_alloc | with_reducible apply le_size_drewN | with_reducible apply le_size_drew | with_reducible apply le_size_setCell | refine Nat.le_trans ?_ (Below.size (by assumption))))
  have b : Below w.heap.size w x11 := B.trans (d.mono B.size)
  have HS' : Hid (Sl x11 (.int .i64) A3 [2, 3, 1]) := HS.out.ext d
  clear hb B d HS hT
  have B := b
  clear b
  have HS := HS'
  clear HS'
  go_wp2_with fail
  refine (h3t _ (HAL.out.ext (by repeat' (first | with_reducible exact Below.refl _ _ | with_reducible assumption | with_reducible apply Below.drew | with_reducible apply below_drewN | with_reducible apply Below.alloc | with_reducible apply Below.setCell | (with_reducible refine Below.trans ?_ (Below.mono (by assumption) ?_)) | (simp; done) | (simp; omega) | omega | with_reducible apply le_size_alloc | with_reducible apply le_size_drewN | with_reducible apply le_size_drew | with_reducible apply le_size_setCell | refine Nat.le_trans ?_ (Below.size (by assumption)))))).mono ?_
  rintro e x12 ⟨⟨b3, rfl, hc3⟩, hb⟩
  have d : Below x11.heap.size x11 x12 := by clear B; exact (by repeat' (first | with_reducible exact Below.refl _ _ | with_reducible assumption | with_reducible apply Below.drew | with_reducible apply below_drewN | with_reducible apply Below.alloc | with_reducible apply Below.setCell | (with_reducible refine Below.trans ?_ (Below.mono (by assumption) ?_)) | (simp; done) | (simp; omega) | omega | with_reducible apply le_size_alloc | with_reducible apply le_size_drewN | with_reducible apply le_size_drew | with_reducible apply le_size_setCell | refine Nat.le_trans ?_ (Below.size (by assumption))))
  have b : Below w.heap.size w x12 := B.trans (d.mono B.size)
  have HS' : Hid (Sl x12 (.int .i64) A3 [2, 3, 1]) := HS.out.ext d
  have HC : Hid (CR procE x12 (some ⟨b3, 0, none⟩) 3 L) := hc3
  clear hb B d HS h3t hc3
  have B := b
  clear b
  have HS := HS'
  clear HS'
  go_wp2_with fail
  refine (hV b3 _ (HAL.out.ext B) HC.out).mono ?_
  rintro e x13 ⟨rfl, hb⟩
  have d : Below x12.heap.size x12 x13 := by clear B; exact (by repeat' (first | with_reducible exact Below.refl _ _ | with_reducible assumption | with_reducible apply Below.drew | with_reducible apply below_drewN | with_reducible apply Below.alloc | with_reducible apply Below.setCell | (with_reducible refine Below.trans ?_ (Below.mono (by assumption) ?_)) | (simp; done) | (simp; omega) | omega | with_reducible apply le_size_alloc | with_reducible apply le_size_drewN | with_reducible apply le_size_drew | with_reducible apply le_size_setCell | refine Nat.le_trans ?_ (Below.size (by assumption))))
  have b : Below w.heap.size w x13 := B.trans (d.mono B.size)
  have HS' : Hid (Sl x13 (.int .i64) A3 [2, 3, 1]) := HS.out.ext d
  clear hb B d HS hV HC
  have B := b
  clear b
  have HS := HS'
  clear HS'
  go_wp2_with fail
  refine (hY _ (HAL.out.ext B)).mono ?_
  rintro e x14 ⟨rfl, hb⟩
  have d : Below x13.heap.size x13 x14 := by clear B; exact (by repeat' (first | with_reducible exact Below.refl _ _ | with_reducible assumption | with_reducible apply Below.drew | with_reducible apply below_drewN | with_reducible apply Below.alloc | with_reducible apply Below.setCell | (with_reducible refine Below.trans ?_ (Below.mono (by assumption) ?_)) | (simp; done) | (simp; omega) | omega | with_reducible apply le_size_alloc | with_reducible apply le_size_drewN | with_reducible apply le_size_drew | with_reducible apply le_size_setCell | refine Nat.le_trans ?_ (Below.size (by assumption))))
  have b : Below w.heap.size w x14 := B.trans (d.mono B.size)
  have HS' : Hid (Sl x14 (.int .i64) A3 [2, 3, 1]) := HS.out.ext d
  clear hb B d HS hY
  have B := b
  clear b
  have HS := HS'
  clear HS'
  go_wp2_with fail
  refine (SameInts_any A3 _ c3 _ [2, 3, 1] [2, 3, 1] _ (HS.out.ext (by repeat' (first | with_reducible exact Below.refl _ _ | with_reducible assumption | with_reducible apply Below.drew | with_reducible apply below_drewN | with_reducible apply Below.alloc | with_reducible apply Below.setCell | (with_reducible refine Below.trans ?_ (Below.mono (by assumption) ?_)) | (simp; done) | (simp; omega) | omega | with_reducible apply le_size_alloc | with_reducible apply le_size_drewN | with_reducible apply le_size_drew | with_reducible apply le_size_setCell | refine Nat.le_trans ?_ (Below.size (by assumption))))) (Sl.of_lit (t := 3) (xs := [2, 3, 1]) (by repeat' (first | with_reducible assumption | (with_reducible refine Blk.new_ ?_ ?_ <;> first | (simp; done) | rfl) | with_reducible apply Blk.drew_ | with_reducible apply Blk.drewN_ | with_reducible apply Blk.alloc_ | with_reducible refine Blk.far_ ?_ ?_ _ | (with_reducible refine Blk.below_ ?_ (by assumption) ?_) | (simp; done) | (simp; omega) | omega | with_reducible apply le_size_alloc | with_reducible apply lt_size_alloc | with_reducible apply le_size_drewN | with_reducible apply le_size_drew | with_reducible apply le_size_setCell | refine Nat.lt_of_lt_of_le ?_ (Below.size (by assumption)) | refine Nat.le_trans ?_ (Below.size (by assumption))))) (by simp) (by simp)).mono ?_
  rw [decide_eq_true rfl]
  rintro e x15 ⟨rfl, hb⟩
  go_wp2
  refine bodyPost_ret (v := .bool true) (by simp [results, Tryz.results10, go_sem]) rfl ?_
  exact ⟨rfl, (by repeat' (first | with_reducible exact Below.refl _ _ | with_reducible assumption | with_reducible apply Below.drew | with_reducible apply below_drewN | with_reducible apply Below.alloc | with_reducible apply Below.setCell | (with_reducible refine Below.trans ?_ (Below.mono (by assumption) ?_)) | (simp; done) | (simp; omega) | omega | with_reducible apply le_size_alloc | with_reducible apply le_size_drewN | with_reducible apply le_size_drew | with_reducible apply le_size_setCell | refine Nat.le_trans ?_ (Below.size (by assumption))))⟩
end Go.Proofs.YtmbpjafiinfkkaaGreatDoor
namespace Go.Proofs.YtmbpjafiinfkkaaGreatDoor
set_option linter.unusedSimpArgs false
set_option linter.unusedVariables false
open Go.RowKit Go.Maps

def scoresL : List PV := [prcT [tP1w], prcT [tNone]]
theorem known_scores : scrE scoresL = 0 ∧ scsL scoresL = [1, 0] := by decide +kernel
theorem known_none : vicE threeL [1, 2, 3] = 6 ∧ vicI threeL [1, 2, 3] = 0 := vic_none (by decide +kernel) (by decide +kernel)
theorem known_range : yldE (threeL.take 2) 3 = 2 ∧ yldI (threeL.take 2) 3 = 0 := by decide +kernel
theorem known_safe : safeE 0 62 = 0 ∧ safeB 128 20 87 62 = false := by decide +kernel
theorem known_cand : candL threeL [1] = [(2, 2), (3, 1)] := by decide +kernel
theorem known_victim : vicE threeL [1] = 0 ∧ vicI threeL [1] = 2 := vic_some (by decide +kernel) (m := (2, 2)) (by rw [known_cand]; exact ⟨by decide, by decide⟩)
theorem known_yields : yldE (threeL.take 2) 1 = 0 ∧ yldI (threeL.take 2) 1 = 1 := by decide +kernel

set_option maxRecDepth 100000 in
set_option maxHeartbeats 8000000 in
theorem oomKnown_walk (w : World) (hal : AL w) : Calls Tryz.prog 5 #[] w fun e w' => e = .returned (.bool true) ∧ Below w.heap.size w w' := by
  have HAL := Lib.hid hal
  clear hal
  have h0 : ∀ w, AL w → Calls Tryz.prog _ #[.slice (some ⟨w.heap.size, 0, none⟩) 1 1] _ _ := fun w ha => proc_lit [tP1w] w ha (by decide)
  have h1 : ∀ w, AL w → Calls Tryz.prog _ #[.slice (some ⟨w.heap.size, 0, none⟩) 1 1] _ _ := fun w ha => proc_lit [tNone] w ha (by decide)
  have hSc : ∀ b w, AL w → SR procE w (some ⟨b, 0, none⟩) scoresL → Calls Tryz.prog 13 #[.slice (some ⟨b, 0, none⟩) 2 2] w fun e w' => (∃ A c, e = .returned (.tuple #[.slice A 2 c, .int .i64 0]) ∧ Sl w' (.int .i64) A [1, 0]) ∧ Below w.heap.size w w' := fun b w ha hs => by
    have := Scores_any (some ⟨b, 0, none⟩) 2 scoresL w ha hs (by decide)
    unfold ScrPost at this
    rw [known_scores.1, known_scores.2] at this
    exact this.mono fun e w' h => ⟨by obtain ⟨⟨A, c, h1, h2⟩, _⟩ := h; exact ⟨A, c, h1, h2 rfl⟩, h.2⟩
  unfold scoresL at hSc
  have hVi : ∀ b g w, AL w → CR procE w (some ⟨b, 0, none⟩) 3 threeL → Sl w (.int .i64) (some ⟨g, 0, none⟩) [1, 2, 3] → Calls Tryz.prog 16 #[.slice (some ⟨b, 0, none⟩) 3 3, .slice (some ⟨g, 0, none⟩) 3 3] w fun e w' => e = .returned (.tuple #[.int .i64 0, .int .i64 6]) ∧ Below w.heap.size w w' := fun b g w ha hs hp => by
    have := Victim_any (some ⟨b, 0, none⟩) 3 threeL (some ⟨g, 0, none⟩) 3 [1, 2, 3] w ha hs.1 (by decide) hp (by simp)
    rw [known_none.1, known_none.2] at this
    exact this
  have hYi : ∀ b w, AL w → CR procE w (some ⟨b, 0, none⟩) 3 threeL → Calls Tryz.prog 31 #[.slice (some ⟨b, 0, none⟩) 2 3, .int .i64 3] w fun e w' => e = .returned (.tuple #[.int .i64 0, .int .i64 2]) ∧ Below w.heap.size w w' := fun b w ha hs => by
    have := Yield_any (some ⟨b, 0, none⟩) 3 (threeL.take 2) 3 w ha (hs.1.take 2) (by decide)
    rw [known_range.1, known_range.2] at this
    exact this
  have hSf : ∀ w, Calls Tryz.prog 27 #[cfgV 128 16 20 3 8 4 8 16 32, .int .i64 62] w fun e w' => e = .returned (.tuple #[.bool false, .int .i64 0]) ∧ Below w.heap.size w w' := fun w => by
    have := Safe_any 128 16 20 3 8 4 8 16 32 62 w
    rw [awake_K.1, known_safe.1, if_pos rfl, awake_K.2.1, known_safe.2] at this
    exact this
  have hC := fun w => config_any w
  have hA := fun w ha => awake_any w ha
  have hV : ∀ b g w, AL w → CR procE w (some ⟨b, 0, none⟩) 3 threeL → Sl w (.int .i64) (some ⟨g, 0, none⟩) [1] → Calls Tryz.prog 33 #[.slice (some ⟨b, 0, none⟩) 3 3, .int .i64 2, .slice (some ⟨g, 0, none⟩) 1 1] w fun e w' => e = .returned (.bool true) ∧ Below w.heap.size w w' := fun b g w ha hs hp =>
    victim_any (some ⟨b, 0, none⟩) 3 threeL 2 (some ⟨g, 0, none⟩) 1 [1] w ha hs.1 (by decide) hp (by simp) known_victim.1 known_victim.2
  have hY : ∀ w, AL w → Calls Tryz.prog 34 #[.int .i64 1, .int .i64 1] w fun e w' => e = .returned (.bool true) ∧ Below w.heap.size w w' := fun w ha => yields_any 1 1 w ha known_yields.1 known_yields.2
  generalize prcT [tP1w] = p1 at *
  generalize prcT [tNone] = p2 at *
  have h3t := fun w ha => three_any w ha
  generalize threeL = L at *
  generalize cfgV 128 16 20 3 8 4 8 16 32 = cfg at *
  have B : Below w.heap.size w w := Below.refl _ _
  go_enter Tryz.func5, Tryz.ntmps5
  go_wp2_with fail
  refine (h0 _ (HAL.out.ext B)).mono ?_
  rintro e x1 ⟨rfl, hb⟩
  have d : Below w.heap.size w x1 := by clear B; exact (by repeat' (first | with_reducible exact Below.refl _ _ | with_reducible assumption | with_reducible apply Below.drew | with_reducible apply below_drewN | with_reducible apply Below.alloc | with_reducible apply Below.setCell | (with_reducible refine Below.trans ?_ (Below.mono (by assumption) ?_)) | (simp; done) | (simp; omega) | omega | with_reducible apply le_size_alloc | with_reducible apply le_size_drewN | with_reducible apply le_size_drew | with_reducible apply le_size_setCell | refine Nat.le_trans ?_ (Below.size (by assumption))))
  have b : Below w.heap.size w x1 := B.trans (d.mono B.size)
  clear hb B d  h0
  have B := b
  clear b
  go_wp2_with fail
  refine (h1 _ (HAL.out.ext B)).mono ?_
  rintro e x2 ⟨rfl, hb⟩
  have d : Below x1.heap.size x1 x2 := by clear B; exact (by repeat' (first | with_reducible exact Below.refl _ _ | with_reducible assumption | with_reducible apply Below.drew | with_reducible apply below_drewN | with_reducible apply Below.alloc | with_reducible apply Below.setCell | (with_reducible refine Below.trans ?_ (Below.mono (by assumption) ?_)) | (simp; done) | (simp; omega) | omega | with_reducible apply le_size_alloc | with_reducible apply le_size_drewN | with_reducible apply le_size_drew | with_reducible apply le_size_setCell | refine Nat.le_trans ?_ (Below.size (by assumption))))
  have b : Below w.heap.size w x2 := B.trans (d.mono B.size)
  clear hb B d  h1
  have B := b
  clear b
  go_wp2_with (refine wpList_buildP rfl 2 _ rfl [p1, p2] rfl rfl (by simp) (by simp) ?_)
  refine (hSc x2.heap.size _ (HAL.out.ext (by repeat' (first | with_reducible exact Below.refl _ _ | with_reducible assumption | with_reducible apply Below.drew | with_reducible apply below_drewN | with_reducible apply Below.alloc | with_reducible apply Below.setCell | (with_reducible refine Below.trans ?_ (Below.mono (by assumption) ?_)) | (simp; done) | (simp; omega) | omega | with_reducible apply le_size_alloc | with_reducible apply le_size_drewN | with_reducible apply le_size_drew | with_reducible apply le_size_setCell | refine Nat.le_trans ?_ (Below.size (by assumption))))) (SR.of_blk (Blk.new_ rfl rfl))).mono ?_
  rintro e x3 ⟨⟨A3, c3, rfl, hs⟩, hb⟩
  have d : Below x2.heap.size x2 x3 := by clear B; exact (by repeat' (first | with_reducible exact Below.refl _ _ | with_reducible assumption | with_reducible apply Below.drew | with_reducible apply below_drewN | with_reducible apply Below.alloc | with_reducible apply Below.setCell | (with_reducible refine Below.trans ?_ (Below.mono (by assumption) ?_)) | (simp; done) | (simp; omega) | omega | with_reducible apply le_size_alloc | with_reducible apply le_size_drewN | with_reducible apply le_size_drew | with_reducible apply le_size_setCell | refine Nat.le_trans ?_ (Below.size (by assumption))))
  have b : Below w.heap.size w x3 := B.trans (d.mono B.size)
  have HS : Hid (Sl x3 (.int .i64) A3 [1, 0]) := hs
  clear hb B d  hSc hs
  have B := b
  clear b
  go_wp2_with fail
  refine (h3t _ (HAL.out.ext (by repeat' (first | with_reducible exact Below.refl _ _ | with_reducible assumption | with_reducible apply Below.drew | with_reducible apply below_drewN | with_reducible apply Below.alloc | with_reducible apply Below.setCell | (with_reducible refine Below.trans ?_ (Below.mono (by assumption) ?_)) | (simp; done) | (simp; omega) | omega | with_reducible apply le_size_alloc | with_reducible apply le_size_drewN | with_reducible apply le_size_drew | with_reducible apply le_size_setCell | refine Nat.le_trans ?_ (Below.size (by assumption)))))).mono ?_
  rintro e x4 ⟨⟨b3, rfl, hc3⟩, hb⟩
  have d : Below x3.heap.size x3 x4 := by clear B; exact (by repeat' (first | with_reducible exact Below.refl _ _ | with_reducible assumption | with_reducible apply Below.drew | with_reducible apply below_drewN | with_reducible apply Below.alloc | with_reducible apply Below.setCell | (with_reducible refine Below.trans ?_ (Below.mono (by assumption) ?_)) | (simp; done) | (simp; omega) | omega | with_reducible apply le_size_alloc | with_reducible apply le_size_drewN | with_reducible apply le_size_drew | with_reducible apply le_size_setCell | refine Nat.le_trans ?_ (Below.size (by assumption))))
  have b : Below w.heap.size w x4 := B.trans (d.mono B.size)
  have HS' : Hid (Sl x4 (.int .i64) A3 [1, 0]) := HS.out.ext d
  have HC : Hid (CR procE x4 (some ⟨b3, 0, none⟩) 3 L) := hc3
  clear hb B d HS hc3
  have B := b
  clear b
  have HS := HS'
  clear HS'
  go_wp2_with fail
  refine (hVi b3 x4.heap.size _ (HAL.out.ext (by repeat' (first | with_reducible exact Below.refl _ _ | with_reducible assumption | with_reducible apply Below.drew | with_reducible apply below_drewN | with_reducible apply Below.alloc | with_reducible apply Below.setCell | (with_reducible refine Below.trans ?_ (Below.mono (by assumption) ?_)) | (simp; done) | (simp; omega) | omega | with_reducible apply le_size_alloc | with_reducible apply le_size_drewN | with_reducible apply le_size_drew | with_reducible apply le_size_setCell | refine Nat.le_trans ?_ (Below.size (by assumption))))) (HC.out.ext ((Below.refl _ _).alloc (Nat.le_refl _) _)) (Sl.of_lit (t := 3) (xs := [1, 2, 3]) (by repeat' (first | with_reducible assumption | (with_reducible refine Blk.new_ ?_ ?_ <;> first | (simp; done) | rfl) | with_reducible apply Blk.drew_ | with_reducible apply Blk.drewN_ | with_reducible apply Blk.alloc_ | with_reducible refine Blk.far_ ?_ ?_ _ | (with_reducible refine Blk.below_ ?_ (by assumption) ?_) | (simp; done) | (simp; omega) | omega | with_reducible apply le_size_alloc | with_reducible apply lt_size_alloc | with_reducible apply le_size_drewN | with_reducible apply le_size_drew | with_reducible apply le_size_setCell | refine Nat.lt_of_lt_of_le ?_ (Below.size (by assumption)) | refine Nat.le_trans ?_ (Below.size (by assumption)))))).mono ?_
  rintro e x5 ⟨rfl, hb⟩
  have d : Below x4.heap.size x4 x5 := by clear B; exact (by repeat' (first | with_reducible exact Below.refl _ _ | with_reducible assumption | with_reducible apply Below.drew | with_reducible apply below_drewN | with_reducible apply Below.alloc | with_reducible apply Below.setCell | (with_reducible refine Below.trans ?_ (Below.mono (by assumption) ?_)) | (simp; done) | (simp; omega) | omega | with_reducible apply le_size_alloc | with_reducible apply le_size_drewN | with_reducible apply le_size_drew | with_reducible apply le_size_setCell | refine Nat.le_trans ?_ (Below.size (by assumption))))
  have b : Below w.heap.size w x5 := B.trans (d.mono B.size)
  have HS' : Hid (Sl x5 (.int .i64) A3 [1, 0]) := HS.out.ext d
  clear hb B d HS hVi HC
  have B := b
  clear b
  have HS := HS'
  clear HS'
  go_wp2_with fail
  refine (h3t _ (HAL.out.ext (by repeat' (first | with_reducible exact Below.refl _ _ | with_reducible assumption | with_reducible apply Below.drew | with_reducible apply below_drewN | with_reducible apply Below.alloc | with_reducible apply Below.setCell | (with_reducible refine Below.trans ?_ (Below.mono (by assumption) ?_)) | (simp; done) | (simp; omega) | omega | with_reducible apply le_size_alloc | with_reducible apply le_size_drewN | with_reducible apply le_size_drew | with_reducible apply le_size_setCell | refine Nat.le_trans ?_ (Below.size (by assumption)))))).mono ?_
  rintro e x6 ⟨⟨b3, rfl, hc3⟩, hb⟩
  have d : Below x5.heap.size x5 x6 := by clear B; exact (by repeat' (first | with_reducible exact Below.refl _ _ | with_reducible assumption | with_reducible apply Below.drew | with_reducible apply below_drewN | with_reducible apply Below.alloc | with_reducible apply Below.setCell | (with_reducible refine Below.trans ?_ (Below.mono (by assumption) ?_)) | (simp; done) | (simp; omega) | omega | with_reducible apply le_size_alloc | with_reducible apply le_size_drewN | with_reducible apply le_size_drew | with_reducible apply le_size_setCell | refine Nat.le_trans ?_ (Below.size (by assumption))))
  have b : Below w.heap.size w x6 := B.trans (d.mono B.size)
  have HS' : Hid (Sl x6 (.int .i64) A3 [1, 0]) := HS.out.ext d
  have HC : Hid (CR procE x6 (some ⟨b3, 0, none⟩) 3 L) := hc3
  clear hb B d HS hc3
  have B := b
  clear b
  have HS := HS'
  clear HS'
  go_wp2_with fail
  refine (hYi b3 _ (HAL.out.ext B) HC.out).mono ?_
  rintro e x7 ⟨rfl, hb⟩
  have d : Below x6.heap.size x6 x7 := by clear B; exact (by repeat' (first | with_reducible exact Below.refl _ _ | with_reducible assumption | with_reducible apply Below.drew | with_reducible apply below_drewN | with_reducible apply Below.alloc | with_reducible apply Below.setCell | (with_reducible refine Below.trans ?_ (Below.mono (by assumption) ?_)) | (simp; done) | (simp; omega) | omega | with_reducible apply le_size_alloc | with_reducible apply le_size_drewN | with_reducible apply le_size_drew | with_reducible apply le_size_setCell | refine Nat.le_trans ?_ (Below.size (by assumption))))
  have b : Below w.heap.size w x7 := B.trans (d.mono B.size)
  have HS' : Hid (Sl x7 (.int .i64) A3 [1, 0]) := HS.out.ext d
  clear hb B d HS hYi HC
  have B := b
  clear b
  have HS := HS'
  clear HS'
  go_wp2_with fail
  refine (hC _).mono ?_
  rintro e x8 ⟨rfl, hb⟩
  have d : Below x7.heap.size x7 x8 := by clear B; exact (by repeat' (first | with_reducible exact Below.refl _ _ | with_reducible assumption | with_reducible apply Below.drew | with_reducible apply below_drewN | with_reducible apply Below.alloc | with_reducible apply Below.setCell | (with_reducible refine Below.trans ?_ (Below.mono (by assumption) ?_)) | (simp; done) | (simp; omega) | omega | with_reducible apply le_size_alloc | with_reducible apply le_size_drewN | with_reducible apply le_size_drew | with_reducible apply le_size_setCell | refine Nat.le_trans ?_ (Below.size (by assumption))))
  have b : Below w.heap.size w x8 := B.trans (d.mono B.size)
  have HS' : Hid (Sl x8 (.int .i64) A3 [1, 0]) := HS.out.ext d
  clear hb B d HS hC
  have B := b
  clear b
  have HS := HS'
  clear HS'
  go_wp2_with fail
  refine (hSf _).mono ?_
  rintro e x9 ⟨rfl, hb⟩
  have d : Below x8.heap.size x8 x9 := by clear B; exact (by repeat' (first | with_reducible exact Below.refl _ _ | with_reducible assumption | with_reducible apply Below.drew | with_reducible apply below_drewN | with_reducible apply Below.alloc | with_reducible apply Below.setCell | (with_reducible refine Below.trans ?_ (Below.mono (by assumption) ?_)) | (simp; done) | (simp; omega) | omega | with_reducible apply le_size_alloc | with_reducible apply le_size_drewN | with_reducible apply le_size_drew | with_reducible apply le_size_setCell | refine Nat.le_trans ?_ (Below.size (by assumption))))
  have b : Below w.heap.size w x9 := B.trans (d.mono B.size)
  have HS' : Hid (Sl x9 (.int .i64) A3 [1, 0]) := HS.out.ext d
  clear hb B d HS hSf
  have B := b
  clear b
  have HS := HS'
  clear HS'
  go_wp2_with fail
  refine (hA _ (HAL.out.ext B)).mono ?_
  rintro e x10 ⟨rfl, hb⟩
  have d : Below x9.heap.size x9 x10 := by clear B; exact (by repeat' (first | with_reducible exact Below.refl _ _ | with_reducible assumption | with_reducible apply Below.drew | with_reducible apply below_drewN | with_reducible apply Below.alloc | with_reducible apply Below.setCell | (with_reducible refine Below.trans ?_ (Below.mono (by assumption) ?_)) | (simp; done) | (simp; omega) | omega | with_reducible apply le_size_alloc | with_reducible apply le_size_drewN | with_reducible apply le_size_drew | with_reducible apply le_size_setCell | refine Nat.le_trans ?_ (Below.size (by assumption))))
  have b : Below w.heap.size w x10 := B.trans (d.mono B.size)
  have HS' : Hid (Sl x10 (.int .i64) A3 [1, 0]) := HS.out.ext d
  clear hb B d HS hA
  have B := b
  clear b
  have HS := HS'
  clear HS'
  go_wp2_with fail
  refine (SameInts_any A3 _ c3 _ [1, 0] [1, 0] _ (HS.out.ext (by clear B; exact (by repeat' (first | with_reducible exact Below.refl _ _ | with_reducible assumption | with_reducible apply Below.drew | with_reducible apply below_drewN | with_reducible apply Below.alloc | with_reducible apply Below.setCell | (with_reducible refine Below.trans ?_ (Below.mono (by assumption) ?_)) | (simp; done) | (simp; omega) | omega | with_reducible apply le_size_alloc | with_reducible apply le_size_drewN | with_reducible apply le_size_drew | with_reducible apply le_size_setCell | refine Nat.le_trans ?_ (Below.size (by assumption)))))) (Sl.of_lit (t := 3) (xs := [1, 0]) (by repeat' (first | with_reducible assumption | (with_reducible refine Blk.new_ ?_ ?_ <;> first | (simp; done) | rfl) | with_reducible apply Blk.drew_ | with_reducible apply Blk.drewN_ | with_reducible apply Blk.alloc_ | with_reducible refine Blk.far_ ?_ ?_ _ | (with_reducible refine Blk.below_ ?_ (by assumption) ?_) | (simp; done) | (simp; omega) | omega | with_reducible apply le_size_alloc | with_reducible apply lt_size_alloc | with_reducible apply le_size_drewN | with_reducible apply le_size_drew | with_reducible apply le_size_setCell | refine Nat.lt_of_lt_of_le ?_ (Below.size (by assumption)) | refine Nat.le_trans ?_ (Below.size (by assumption))))) (by simp) (by simp)).mono ?_
  rw [decide_eq_true rfl]
  rintro e x11 ⟨rfl, hb⟩
  have d : Below x10.heap.size x10 x11 := by clear B; exact (by repeat' (first | with_reducible exact Below.refl _ _ | with_reducible assumption | with_reducible apply Below.drew | with_reducible apply below_drewN | with_reducible apply Below.alloc | with_reducible apply Below.setCell | (with_reducible refine Below.trans ?_ (Below.mono (by assumption) ?_)) | (simp; done) | (simp; omega) | omega | with_reducible apply le_size_alloc | with_reducible apply le_size_drewN | with_reducible apply le_size_drew | with_reducible apply le_size_setCell | refine Nat.le_trans ?_ (Below.size (by assumption))))
  have b : Below w.heap.size w x11 := B.trans (d.mono B.size)
  clear hb B d HS
  have B := b
  clear b
  go_wp2_with fail
  refine (h3t _ (HAL.out.ext B)).mono ?_
  rintro e x12 ⟨⟨b3, rfl, hc3⟩, hb⟩
  have d : Below x11.heap.size x11 x12 := by clear B; exact (by repeat' (first | with_reducible exact Below.refl _ _ | with_reducible assumption | with_reducible apply Below.drew | with_reducible apply below_drewN | with_reducible apply Below.alloc | with_reducible apply Below.setCell | (with_reducible refine Below.trans ?_ (Below.mono (by assumption) ?_)) | (simp; done) | (simp; omega) | omega | with_reducible apply le_size_alloc | with_reducible apply le_size_drewN | with_reducible apply le_size_drew | with_reducible apply le_size_setCell | refine Nat.le_trans ?_ (Below.size (by assumption))))
  have b : Below w.heap.size w x12 := B.trans (d.mono B.size)
  have HC : Hid (CR procE x12 (some ⟨b3, 0, none⟩) 3 L) := hc3
  clear hb B d  hc3 h3t
  have B := b
  clear b
  go_wp2_with fail
  refine (hV b3 x12.heap.size _ (HAL.out.ext (by repeat' (first | with_reducible exact Below.refl _ _ | with_reducible assumption | with_reducible apply Below.drew | with_reducible apply below_drewN | with_reducible apply Below.alloc | with_reducible apply Below.setCell | (with_reducible refine Below.trans ?_ (Below.mono (by assumption) ?_)) | (simp; done) | (simp; omega) | omega | with_reducible apply le_size_alloc | with_reducible apply le_size_drewN | with_reducible apply le_size_drew | with_reducible apply le_size_setCell | refine Nat.le_trans ?_ (Below.size (by assumption))))) (HC.out.ext ((Below.refl _ _).alloc (Nat.le_refl _) _)) (Sl.of_lit (t := 3) (xs := [1]) (by repeat' (first | with_reducible assumption | (with_reducible refine Blk.new_ ?_ ?_ <;> first | (simp; done) | rfl) | with_reducible apply Blk.drew_ | with_reducible apply Blk.drewN_ | with_reducible apply Blk.alloc_ | with_reducible refine Blk.far_ ?_ ?_ _ | (with_reducible refine Blk.below_ ?_ (by assumption) ?_) | (simp; done) | (simp; omega) | omega | with_reducible apply le_size_alloc | with_reducible apply lt_size_alloc | with_reducible apply le_size_drewN | with_reducible apply le_size_drew | with_reducible apply le_size_setCell | refine Nat.lt_of_lt_of_le ?_ (Below.size (by assumption)) | refine Nat.le_trans ?_ (Below.size (by assumption)))))).mono ?_
  rintro e x13 ⟨rfl, hb⟩
  have d : Below x12.heap.size x12 x13 := by clear B; exact (by repeat' (first | with_reducible exact Below.refl _ _ | with_reducible assumption | with_reducible apply Below.drew | with_reducible apply below_drewN | with_reducible apply Below.alloc | with_reducible apply Below.setCell | (with_reducible refine Below.trans ?_ (Below.mono (by assumption) ?_)) | (simp; done) | (simp; omega) | omega | with_reducible apply le_size_alloc | with_reducible apply le_size_drewN | with_reducible apply le_size_drew | with_reducible apply le_size_setCell | refine Nat.le_trans ?_ (Below.size (by assumption))))
  have b : Below w.heap.size w x13 := B.trans (d.mono B.size)
  clear hb B d  hV HC
  have B := b
  clear b
  go_wp2_with fail
  refine (hY _ (HAL.out.ext B)).mono ?_
  rintro e x14 ⟨rfl, hb⟩
  have d : Below x13.heap.size x13 x14 := by clear B; exact (by repeat' (first | with_reducible exact Below.refl _ _ | with_reducible assumption | with_reducible apply Below.drew | with_reducible apply below_drewN | with_reducible apply Below.alloc | with_reducible apply Below.setCell | (with_reducible refine Below.trans ?_ (Below.mono (by assumption) ?_)) | (simp; done) | (simp; omega) | omega | with_reducible apply le_size_alloc | with_reducible apply le_size_drewN | with_reducible apply le_size_drew | with_reducible apply le_size_setCell | refine Nat.le_trans ?_ (Below.size (by assumption))))
  have b : Below w.heap.size w x14 := B.trans (d.mono B.size)
  clear hb B d  hY
  have B := b
  clear b
  go_wp2
  refine bodyPost_ret (v := .bool true) (by simp [results, Tryz.results5, go_sem]) rfl ?_
  exact ⟨rfl, (by repeat' (first | with_reducible exact Below.refl _ _ | with_reducible assumption | with_reducible apply Below.drew | with_reducible apply below_drewN | with_reducible apply Below.alloc | with_reducible apply Below.setCell | (with_reducible refine Below.trans ?_ (Below.mono (by assumption) ?_)) | (simp; done) | (simp; omega) | omega | with_reducible apply le_size_alloc | with_reducible apply le_size_drewN | with_reducible apply le_size_drew | with_reducible apply le_size_setCell | refine Nat.le_trans ?_ (Below.size (by assumption))))⟩
end Go.Proofs.YtmbpjafiinfkkaaGreatDoor
