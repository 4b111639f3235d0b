/- A slice literal of structs; a whole struct stored; headgatelaw34: proc, config. No statement is proved here. -/
import Derived.Test.YtmbpjafiinfkkaaGreatDoorOP3
import Derived.Laws.CopyOwn
import Derived.Great.BuildSlice
namespace Go.Proofs.YtmbpjafiinfkkaaGreatDoor
set_option linter.unusedSimpArgs false
set_option linter.unusedVariables false
open Go.RowKit Go.Maps

/-- A slice literal of structs. -/
theorem run_buildE {P : Program} {α : Type} (E : Elt P α) (l : List α) (val : α → Value) (hv : ∀ x, (val x).cells = (E.enc x).toArray) (w : World) (parts : Array (Nat × Value)) (hp : parts.toList = ((l.map val).zipIdx 0).map fun x => (x.2, x.1)) (hpos : 0 < l.length) (hl : l.length ≤ 1000) :
    (Instr.buildSlice E.s l.length parts).run P w = .ok (.slice (some ⟨w.heap.size, 0, none⟩) l.length l.length) (w.alloc (.cells (E.flat l).toArray E.e)) := by
  obtain ⟨i0, hi, hz0, hz1, hz2⟩ := info_parts E.hi
  have hsz : ∀ v ∈ l.map val, v.cells.size = E.sz := fun v hv' => by
    obtain ⟨x, _, rfl⟩ := List.mem_map.1 hv'
    rw [hv, List.size_toArray, E.hlen]
  obtain ⟨r, hr, hrs, hrk⟩ := Go.Great.fill_dense (s := E.sz) E.pos (l.map val) 0 ((Array.range (l.length * E.sz)).map (E.z.cells[· % E.z.cells.size]!)) hsz (by simp)
  have hrf : r = (E.flat l).toArray := by
    apply Array.ext_getElem?
    intro k
    rw [hrk k]
    by_cases hk : k < l.length * E.sz
    · rw [if_pos (by simp; exact hk)]
      have hq : k / E.sz < l.length := Nat.div_lt_of_lt_mul (by rw [Nat.mul_comm]; exact hk)
      have hm : k % E.sz < E.sz := Nat.mod_lt _ E.pos
      have hx : l[k / E.sz]? = some l[k / E.sz] := List.getElem?_eq_getElem hq
      have h1 : (E.enc l[k / E.sz])[k % E.sz]? = some ((E.enc l[k / E.sz])[k % E.sz]'(by rw [E.hlen]; exact hm)) := List.getElem?_eq_getElem _
      have h2 := E.flat_at hx h1
      rw [show k / E.sz * E.sz + k % E.sz = k by rw [Nat.mul_comm]; exact Nat.div_add_mod k E.sz] at h2
      rw [List.getElem?_toArray, h2, Nat.sub_zero, List.getElem?_map, hx]
      simp only [Option.map_some, Option.bind_some, hv]
      rw [List.getElem?_toArray, h1]
    · rw [if_neg (by simp; omega)]
      have h1 : (E.flat l).toArray[k]? = none := by rw [List.getElem?_toArray]; exact List.getElem?_eq_none (by rw [E.flat_length]; omega)
      rw [h1]
      exact Array.getElem?_eq_none (by simp; omega)
  subst hrf
  have hf := E.few.2
  have h1 : l.length * E.sz ≤ 1000 * 1000 := Nat.mul_le_mul hl hf
  have h2 : 0 < l.length * E.sz := Nat.mul_pos hpos E.pos
  exact run_buildSlice w E.s E.e l.length parts _ i0 E.z E.hs hi hz0 (by rw [hz1]; omega) (by rw [hz1]; omega) (by rw [hz1, hp]; exact hr)

/-- A whole struct stored over a block of its size. -/
theorem wpList_storeB {P : Program} {ops : Array Oper} {rest : List Oper} {op : Oper} {a : Act} {Q : Exit → Act → World → Prop} {w : World} (hgd : op.guard = none) (ty : TypeId) (x y : Operand) (ho : op.op = .store ty x y) (g : Nat) (cells : Array Value) (hx : a.eval x = .pointer (some ⟨g, 0, none⟩)) (hy : a.eval y = .agg cells)
    (t : TypeId) (old : Array Value) (hB : Blk w g t old) (hi : (P.info? ty).map (·.size) = some cells.size) (hold : old.size = cells.size) (h1 : cells.all (·.oneCell') = true)
    (h : ∀ w', Blk w' g t cells → (∀ B, B ≤ g → Below B w w') → (∀ b t cs, b ≠ g → Blk w b t cs → Blk w' b t cs) → w'.heap.size = w.heap.size → wpList P ops Q rest (a.put op.dst undef) w') : wpList P ops Q (op :: rest) a w :=
  wpList_plain hgd fun _ hK => wp_store_row ty x y ho g cells hx hy t old hB hi hold h1 (hK _ _ (h _ (setRow_heap w g old cells t _ hB) (fun B hb => below_setRow (Below.refl _ _) hb cells) (fun b t cs hb hk => (setRow_other w g b cells hb).trans hk) (setRow_size w g cells)))

/-- The same of a block just made, its number said. -/
theorem wpList_store_newN {P : Program} {ops : Array Oper} {rest : List Oper} {op : Oper} {a : Act} {Q : Exit → Act → World → Prop} (w : World) (N : Nat) (hN : w.heap.size = N) (hgd : op.guard = none) (ty : TypeId) (x y : Operand) (ho : op.op = .store ty x y) (c c' : Array Value)
    (hx : a.eval x = .pointer (some ⟨N, 0, none⟩)) (hy : a.eval y = .agg c') (hi : (P.info? ty).map (·.size) = some c'.size) (hsz : c.size = c'.size) (h1 : c'.all (·.oneCell') = true)
    (h : wpList P ops Q rest (a.put op.dst undef) (w.alloc (.cells c' ty))) : wpList P ops Q (op :: rest) a (w.alloc (.cells c ty)) := by
  subst hN
  exact wpList_store_new w hgd ty x y ho c c' hx hy hi hsz h1 h

/-- A text and its entry. -/
structure Txt where
  s : ByteArray
  k : Nat
  n : Nat
  a : Bool
  b : Bool
  c : Bool
  ok : ∀ w, AL w → Calls Tryz.prog 55 #[.string s] w fun e w' => e = .returned (.tuple #[entV k n a b c, .int .i64 0]) ∧ Below w.heap.size w w'
  chk : chkE k n a b c = 0
def Txt.word (t : Txt) : Nat := packN t.k t.n t.a t.b t.c
def tNone : Txt := ⟨⟨#[45]⟩, 0, 0, false, false, false, fun w _ => parse_none w, by decide⟩
def tS2 : Txt := ⟨⟨#[115, 50]⟩, 2, 2, false, false, false, parse_s2, by decide⟩
def tS3 : Txt := ⟨⟨#[115, 51]⟩, 2, 3, false, false, false, parse_s3, by decide⟩
def tP1w : Txt := ⟨⟨#[112, 49, 119]⟩, 1, 1, true, false, false, parse_p1w, by decide⟩
def tP2c : Txt := ⟨⟨#[112, 50, 99]⟩, 1, 2, false, true, false, parse_p2c, by decide⟩
def tP1c : Txt := ⟨⟨#[112, 49, 99]⟩, 1, 1, false, true, false, parse_p1c, by decide⟩
def tP3w : Txt := ⟨⟨#[112, 51, 119]⟩, 1, 3, true, false, false, parse_p3w, by decide⟩
def tP4w : Txt := ⟨⟨#[112, 52, 119]⟩, 1, 4, true, false, false, parse_p4w, by decide⟩

/-- A process with an entry, a leaf turned. -/
def PV.setE (p : PV) (i x : Nat) : PV := { p with
  es := p.es.set i (x % 18446744073709551616)
  he := by rw [List.length_set]; exact p.he
  hw := fun y hy => by
    rcases List.mem_or_eq_of_mem_set hy with h | h
    · exact p.hw y h
    · rw [h]; exact Nat.mod_lt _ (by decide) }
def PV.setL (p : PV) (i : Nat) (n : Int) : PV := { p with
  lv := p.lv.set i n
  hl := by rw [List.length_set]; exact p.hl }
theorem setE_cells (p : PV) {i x : Nat} (hi : i < 64) (hx : x < 18446744073709551616) : (pvC p).toArray.setIfInBounds (11 + i) (.int .u64 (x : Int)) = (pvC (p.setE i x)).toArray := by
  rw [List.setIfInBounds_toArray]
  congr 1
  have e : pvC (p.setE i x) = .int .i64 p.st :: .int .i64 p.root :: (p.lv.map (fun n => .int .i64 n) ++ (.slice p.rA p.rN p.rC :: (p.es.set i x).map (fun x : Nat => .int .u64 (x : Int)))) := by
    show (_ :: _ :: (_ ++ (_ :: (p.es.set i (x % 18446744073709551616)).map _)) : List Value) = _
    rw [Nat.mod_eq_of_lt hx]
    rfl
  rw [e]
  unfold pvC
  rw [show 11 + i = (8 + (i + 1)) + 1 + 1 by omega, List.set_cons_succ, List.set_cons_succ]
  congr 2
  rw [List.set_append_right _ _ (by simp [p.hl]), List.length_map, p.hl, show 8 + (i + 1) - 8 = i + 1 by omega, List.set_cons_succ, ← List.map_set]
theorem setL_cells (p : PV) {i : Nat} {n : Int} (hi : i < 8) : (pvC p).toArray.setIfInBounds (2 + i) (.int .i64 n) = (pvC (p.setL i n)).toArray := by
  rw [List.setIfInBounds_toArray]
  congr 1
  have e : pvC (p.setL i n) = .int .i64 p.st :: .int .i64 p.root :: ((p.lv.set i n).map (fun n => .int .i64 n) ++ (.slice p.rA p.rN p.rC :: p.es.map (fun x : Nat => .int .u64 (x : Int)))) := rfl
  rw [e]
  unfold pvC
  rw [show 2 + i = i + 1 + 1 by omega, List.set_cons_succ, List.set_cons_succ]
  congr 2
  rw [List.set_append_left _ _ (by simp [p.hl]; exact hi), ← List.map_set]
theorem setS_cells (p : PV) (n : Int) : (pvC p).toArray.setIfInBounds 0 (.int .i64 n) = (pvC { p with st := n }).toArray := by
  rw [List.setIfInBounds_toArray]; rfl
theorem setR_cells (p : PV) (n : Int) : (pvC p).toArray.setIfInBounds 1 (.int .i64 n) = (pvC { p with root := n }).toArray := by
  rw [List.setIfInBounds_toArray]; rfl
/-- No entry, root 0, no leaf. -/
def pv0 : PV := ⟨1, 0, List.replicate 8 (-1), none, 0, 0, List.replicate 64 0, by simp, by simp, fun x hx => by rw [List.eq_of_mem_replicate hx]; decide⟩
/-- Its first entries are those of texts. -/
def prcF (ts : List Txt) : Nat → PV
  | 0 => pv0
  | k + 1 => match ts[k]? with
    | some t => (prcF ts k).setE k t.word
    | none => prcF ts k
def prcT (ts : List Txt) : PV := prcF ts ts.length
theorem prcF_next {ts : List Txt} {k : Nat} {t : Txt} (h : ts[k]? = some t) : prcF ts (k + 1) = (prcF ts k).setE k t.word := by
  show (match ts[k]? with | some t => (prcF ts k).setE k t.word | none => prcF ts k) = _
  rw [h]
theorem packN_lt {k n : Nat} {a b c : Bool} (h : chkE k n a b c = 0) : packN k n a b c < 65536 := by
  have hk : k < 4 := by
    rcases Nat.lt_or_ge k 4 with h' | h'
    · exact h'
    · unfold chkE at h; rw [if_pos (by omega)] at h; simp at h
  have hn : n < 256 := by
    rcases Nat.lt_or_ge n 256 with h' | h'
    · exact h'
    · unfold chkE at h
      split at h
      · simp at h
      · rw [if_pos (by omega)] at h; simp at h
  have := flgT_lt a b c
  unfold packN
  omega
theorem built0 : Tryz.prog.built 41 [(0, .int .i64 1), (2, .agg #[.int .i64 (-1), .int .i64 (-1), .int .i64 (-1), .int .i64 (-1), .int .i64 (-1), .int .i64 (-1), .int .i64 (-1), .int .i64 (-1)])] = some (pvC pv0).toArray := by kernel_rfl
theorem lit0 : (((((((((Tryz.zeroCells41.setIfInBounds 0 (.int .i64 1)).setIfInBounds 2 (.int .i64 (-1))).setIfInBounds 3 (.int .i64 (-1))).setIfInBounds 4 (.int .i64 (-1))).setIfInBounds 5 (.int .i64 (-1))).setIfInBounds 6 (.int .i64 (-1))).setIfInBounds 7 (.int .i64 (-1))).setIfInBounds 8 (.int .i64 (-1))).setIfInBounds 9 (.int .i64 (-1))) = (pvC pv0).toArray := by kernel_rfl
theorem zc75 : Tryz.zeroCells41.size = 75 := by kernel_rfl
theorem Txt.word_lt (t : Txt) : t.word < 65536 := packN_lt t.chk
/-- An entry stored in a process. -/
theorem Blk.setE {p : PV} {w : World} {b : Nat} {t : TypeId} (h : Blk w b t (pvC p).toArray) {i x : Nat} (hi : i < 64) (hx : x < 18446744073709551616) : Blk (w.setCell ⟨b, 11 + i, none⟩ (.int .u64 (x : Int))) b t (pvC (p.setE i x)).toArray := by
  rw [← setE_cells p hi hx]
  exact h.set_ _ _
theorem pv_cell (p : PV) {i x : Nat} (h : p.es[i]? = some x) {w : World} {b : Nat} {t : TypeId} (hB : Blk w b t (pvC p).toArray) : w.cell? ⟨b, 11 + i, none⟩ = some (.int .u64 (x : Int)) := by
  rw [hB.cell_, List.getElem?_toArray]
  exact pvC_ent p h

set_option maxRecDepth 100000 in
set_option maxHeartbeats 8000000 in
theorem proc_any (A : Option Addr) (c : Nat) (ts : List Txt) (w : World) (hal : AL w) (hs : Sl w (fun t : Txt => .string t.s) A ts) (hl : ts.length ≤ 64) :
    Calls Tryz.prog 29 #[.slice A ts.length c] w fun e w' => e = .returned (pvV (prcT ts)) ∧ Below w.heap.size w w' := by
  have HS := Lib.hid hs
  have HAL := Lib.hid hal
  clear hs hal
  have h0 := lit0
  obtain ⟨V1, hV1⟩ : ∃ V1, (w.alloc (.cells Tryz.zeroCells41 41)).alloc (.cells (pvC pv0).toArray 41) = V1 := ⟨_, rfl⟩
  have BV : Below w.heap.size w V1 := by rw [← hV1]; exact (by repeat' (first | with_reducible exact Below.refl _ _ | with_reducible assumption | with_reducible apply Below.drew | with_reducible apply below_drewN | with_reducible apply Below.alloc | with_reducible apply Below.setCell | (with_reducible refine Below.trans ?_ (Below.mono (by assumption) ?_)) | (simp; done) | (simp; omega) | omega | with_reducible apply le_size_alloc | with_reducible apply le_size_drewN | with_reducible apply le_size_drew | with_reducible apply le_size_setCell | refine Nat.le_trans ?_ (Below.size (by assumption))))
  have kR : Blk V1 w.heap.size 41 Tryz.zeroCells41 := by rw [← hV1]; exact (Blk.new_ rfl rfl).alloc_ _
  have kP : Blk V1 (w.heap.size + 1) 41 (pvC pv0).toArray := by rw [← hV1]; exact Blk.new_ (by simp) rfl
  have hbase : w.heap.size + 1 < V1.heap.size := kP.lt
  go_enter Tryz.func29, Tryz.ntmps29
  go_wp2_with (refine wpList_store_newN _ (w.heap.size + 1) (by simp) rfl 41 _ _ rfl _ _ rfl rfl (sz75' pv0) (by rw [zc75]; exact size75 pv0) (all75 pv0) ?_)
  clear hV1 h0
  go_loopw [4] (fun i wr => ∃ k : Nat, k ≤ ts.length ∧ i = .int .i64 k ∧ Hid (Blk wr w.heap.size 41 Tryz.zeroCells41) ∧ Hid (Blk wr (w.heap.size + 1) 41 (pvC (prcF ts k)).toArray) ∧ Below w.heap.size w wr) (fun i _ => ts.length - (intOf i).toNat)
  case atStart => exact ⟨0, by omega, rfl, kR, kP, BV⟩
  case round =>
    obtain ⟨k, hk, rfl, HR, HP, hbw⟩ := hrel
    have wra : AL wr := HAL.out.ext hbw
    have zw := HP.out.lt
    by_cases hlt : k < ts.length
    · obtain ⟨b, off, t, rfl, hbl, hx, hc⟩ := (HS.out.ext hbw).at_ hlt
      have i1 : (k : Int) < ts.length := by omega
      have i2 : (k : Int) < 64 := by omega
      have hn := prcF_next hx
      have HN := Lib.hid hn
      have hpk := fun w ha => Pack_any t.k t.n t.a t.b t.c w ha t.chk
      have hwd : packN t.k t.n t.a t.b t.c < 18446744073709551616 := by have := t.word_lt; unfold Txt.word at this; omega
      unfold entV at hpk
      have hpa := t.ok
      unfold entV at hpa
      obtain ⟨x, hxe⟩ : ∃ x, (prcF ts k).es[k]? = some x := ⟨_, List.getElem?_eq_getElem (by rw [(prcF ts k).he]; omega)⟩
      clear hx hn
      go_wp2_with (first
        | (go_at_call 55; refine (hpa _ (wra.ext (by repeat' (first | with_reducible exact Below.refl _ _ | with_reducible assumption | with_reducible apply Below.drew | with_reducible apply below_drewN | with_reducible apply Below.alloc | with_reducible apply Below.setCell | (with_reducible refine Below.trans ?_ (Below.mono (by assumption) ?_)) | (simp; done) | (simp; omega) | omega | with_reducible apply le_size_alloc | with_reducible apply le_size_drewN | with_reducible apply le_size_drew | with_reducible apply le_size_setCell | refine Nat.le_trans ?_ (Below.size (by assumption)))))).mono ?_; rintro e w1 ⟨rfl, hb1⟩; have zz1 := hb1.size)
        | (go_at_call 56; refine (hpk _ (wra.ext (by repeat' (first | with_reducible exact Below.refl _ _ | with_reducible assumption | with_reducible apply Below.drew | with_reducible apply below_drewN | with_reducible apply Below.alloc | with_reducible apply Below.setCell | (with_reducible refine Below.trans ?_ (Below.mono (by assumption) ?_)) | (simp; done) | (simp; omega) | omega | with_reducible apply le_size_alloc | with_reducible apply le_size_drewN | with_reducible apply le_size_drew | with_reducible apply le_size_setCell | refine Nat.le_trans ?_ (Below.size (by assumption)))))).mono ?_; rintro e w2 ⟨rfl, hb2⟩; have zz2 := hb2.size; have B2 : Below wr.heap.size wr w2 := (by repeat' (first | with_reducible exact Below.refl _ _ | with_reducible assumption | with_reducible apply Below.drew | with_reducible apply below_drewN | with_reducible apply Below.alloc | with_reducible apply Below.setCell | (with_reducible refine Below.trans ?_ (Below.mono (by assumption) ?_)) | (simp; done) | (simp; omega) | omega | with_reducible apply le_size_alloc | with_reducible apply le_size_drewN | with_reducible apply le_size_drew | with_reducible apply le_size_setCell | refine Nat.le_trans ?_ (Below.size (by assumption)))); have kP2 := HP.out.below_ B2 zw; have kR2 := HR.out.below_ B2 (by omega); have cc := pv_cell _ hxe kP2; have ff := kP2.frozen_ (11 + k)))
      go_roundw
      case rel =>
        refine ⟨k + 1, by omega, by go_num, ?_, ?_, (by repeat' (first | with_reducible exact Below.refl _ _ | with_reducible assumption | with_reducible apply Below.drew | with_reducible apply below_drewN | with_reducible apply Below.alloc | with_reducible apply Below.setCell | (with_reducible refine Below.trans ?_ (Below.mono (by assumption) ?_)) | (simp; done) | (simp; omega) | omega | with_reducible apply le_size_alloc | with_reducible apply le_size_drewN | with_reducible apply le_size_drew | with_reducible apply le_size_setCell | refine Nat.le_trans ?_ (Below.size (by assumption))))⟩
        · show Blk _ _ _ _; exact kR2.far_ (by simp) _
        · show Blk _ _ _ _; rw [HN.out]; exact kP2.setE (by omega) hwd
      case measure => simp [intOf]; omega
    · obtain rfl : k = ts.length := by omega
      have hRg : wr.rangeAt (w.heap.size + 1) 0 (pvC (prcF ts ts.length)) := HP.out.rangePV
      clear hlt
      go_wp2_with (first
        | (refine wpList_load_mid rfl 41 _ rfl (w.heap.size + 1) 0 rfl (pvC (prcF ts ts.length)) _ hRg Tryz.underlying41 rfl (sz75 _) ?_)
        | (refine wpList_storeB rfl 41 _ _ rfl w.heap.size _ rfl rfl _ _ HR.out (sz75' _) (by rw [zc75]; exact size75 _) (all75 _) ?_; intro w5 hk5 hb5 hf5 hs5))
      refine bodyPost_ret (v := .agg (pvC (prcF ts ts.length)).toArray) (results_cell_row Tryz.results29 _ _ w.heap.size _ _ _ _ rfl hk5 Tryz.underlying41 rfl (sz75' _)) rfl ?_
      exact ⟨rfl, hbw.trans (hb5 _ (Nat.le_refl _))⟩
end Go.Proofs.YtmbpjafiinfkkaaGreatDoor
