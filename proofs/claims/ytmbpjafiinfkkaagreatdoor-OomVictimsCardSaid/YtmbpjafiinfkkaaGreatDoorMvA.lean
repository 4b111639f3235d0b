/- headgatelaw34: large, own, same; headgatekit.SameRanges. No statement is proved here. -/
/- headgatelaw34: own, same. Written by gen_ov2.py. No statement is proved here. -/
/- A slice of processes as an argument. No statement is proved here. -/
/- OomVictims: the plain law; headgatekit.OwnInts. No statement is proved here. -/
import Derived.Test.YtmbpjafiinfkkaaGreatDoorMwA
import Derived.ChangeKeysEq
import Derived.Test.YtmbpjafiinfkkaaGreatDoorOW5
import Derived.Test.YtmbpjafiinfkkaaGreatDoorCloseR
import Derived.ChangeSame
import Derived.Test.YtmbpjafiinfkkaaGreatDoorOR3
namespace Go.Proofs.YtmbpjafiinfkkaaGreatDoor
set_option linter.unusedSimpArgs false
set_option linter.unusedVariables false
open Go.RowKit Go.Maps

/-- Ranges as a row. -/
def rngE : Elt Tryz.prog (Int × Int) where
  e := 115
  s := 37
  sz := 2
  bytes := 16
  z := .agg #[.int .i64 0, .int .i64 0]
  enc x := [.int .i64 x.1, .int .i64 x.2]
  hs := Tryz.underlying37
  hi := by kernel_rfl
  hz := rfl
  hlen _ := rfl
  hone _ u hu := by simp at hu; rcases hu with rfl | rfl <;> rfl
  pos := by decide
  few := by decide
theorem rng_at {w : World} {A : Option Addr} {l : List (Int × Int)} {k : Nat} (h : SR rngE w A l) (hk : k < l.length) :
    ∃ b off x, A = some ⟨b, off, none⟩ ∧ b < w.heap.size ∧ l[k]? = some x ∧ w.cell? ⟨b, off + k * 2, none⟩ = some (.int .i64 x.1) ∧ w.cell? ⟨b, off + k * 2 + 1, none⟩ = some (.int .i64 x.2) := by
  obtain ⟨b, off, x, e, hb, hx, hc⟩ := h.at_ hk
  exact ⟨b, off, x, e, hb, hx, hc 0 _ rfl, hc 1 _ rfl⟩
theorem plain_intV : Tryz.prog.plainKey 3 = true := by simp [Program.plainKey, Tryz.underlying3]
theorem plain_u64V : Tryz.prog.plainKey 38 = true := by simp [Program.plainKey, Tryz.underlying38]
theorem eqIn_same (w : World) (d : Nat) (k : IntKind) (t : TypeId) (ht : Tryz.prog.underlying t = some (.int k)) (a : Int) : (Op.equalIn (d + 1) t (.int k a) (.int k a)).run Tryz.prog w = .ok true w := by
  simp [Op.equalIn, run_underlying ht]
theorem eq_rng (w : World) (a b : Int) : (Op.equal 115 (.agg #[.int .i64 a, .int .i64 b]) (.agg #[.int .i64 a, .int .i64 b])).run Tryz.prog w = .ok true w := by
  have hs : Tryz.prog.stoodInHeld 115 = false := by kernel_rfl
  have h0 := run_part_plain (xs := #[.int .i64 a, .int .i64 b]) (off := 0) w plain_intV rfl
  have h1 := run_part_plain (xs := #[.int .i64 a, .int .i64 b]) (off := 1) w plain_intV rfl
  have e1 := eqIn_same w 9998 .i64 3 Tryz.underlying3 a
  have e2 := eqIn_same w 9998 .i64 3 Tryz.underlying3 b
  unfold Op.equal
  show (Op.equalIn (9999 + 1) _ _ _).run _ _ = _
  unfold Op.equalIn
  simp only [Sem.run_bind, run_underlying Tryz.underlying115, Result.andThen_ok]
  simp [hs, h0, h1, e1, e2]
theorem eqItems_same (w : World) (d : Nat) (k : IntKind) (e : TypeId) (he : Tryz.prog.underlying e = some (.int k)) (hp : Tryz.prog.plainKey e = true) (xs : Array Value) : ∀ is : List Nat, (∀ i ∈ is, ∃ v, xs[i]? = some (.int k v)) → (Op.eqItems (d + 1) e 1 xs xs is).run Tryz.prog w = .ok true w
  | [], _ => by simp [Op.eqItems]
  | i :: is, h => by
    obtain ⟨v, hv⟩ := h i (by simp)
    have h0 := run_part_plain (xs := xs) (off := i * 1) w hp (by rw [Nat.mul_one]; exact hv)
    simp only [Op.eqItems, Sem.run_bind, h0, Result.andThen_ok, eqIn_same w d k e he v]
    exact eqItems_same w d k e he hp xs is fun j hj => h j (by simp [hj])
theorem eq_lv (w : World) {lv : List Int} (h : lv.length = 8) : (Op.equal 36 (.agg (leavesL lv).toArray) (.agg (leavesL lv).toArray)).run Tryz.prog w = .ok true w := by
  obtain ⟨i, hi⟩ : ∃ i, Tryz.prog.info? 3 = some i := Option.isSome_iff_exists.1 (by kernel_rfl)
  have hc : Tryz.prog.cellsOf 3 = 1 := by kernel_rfl
  unfold Op.equal
  show (Op.equalIn (9999 + 1) _ _ _).run _ _ = _
  rw [run_equalIn_array w 9999 _ _ Tryz.underlying36 hi, hc]
  refine eqItems_same w 9998 .i64 _ Tryz.underlying3 plain_intV _ _ fun j hj => ?_
  have hj8 : j < lv.length := by rw [h]; exact List.mem_range.1 hj
  exact ⟨lv[j], by unfold leavesL; rw [List.getElem?_toArray, List.getElem?_map, List.getElem?_eq_getElem hj8]; rfl⟩
theorem eq_es (w : World) {es : List Nat} (h : es.length = 64) : (Op.equal 39 (.agg (wordsL es).toArray) (.agg (wordsL es).toArray)).run Tryz.prog w = .ok true w := by
  obtain ⟨i, hi⟩ : ∃ i, Tryz.prog.info? 38 = some i := Option.isSome_iff_exists.1 (by kernel_rfl)
  have hc : Tryz.prog.cellsOf 38 = 1 := by kernel_rfl
  unfold Op.equal
  show (Op.equalIn (9999 + 1) _ _ _).run _ _ = _
  rw [run_equalIn_array w 9999 _ _ Tryz.underlying39 hi, hc]
  refine eqItems_same w 9998 .u64 _ Tryz.underlying38 plain_u64V _ _ fun j hj => ?_
  have hj8 : j < es.length := by rw [h]; exact List.mem_range.1 hj
  exact ⟨(es[j] : Nat), by unfold wordsL; rw [List.getElem?_toArray, List.getElem?_map, List.getElem?_eq_getElem hj8]; rfl⟩

set_option maxRecDepth 100000 in
set_option maxHeartbeats 1000000 in
theorem SameRanges_eq (A B : Option Addr) (c d : Nat) (l : List (Int × Int)) (w : World) (ha : SR rngE w A l) (hb : SR rngE w B l) (la : l.length ≤ 1000) :
    Calls Tryz.prog 50 #[.slice A l.length c, .slice B l.length d] w fun e w' => e = .returned (.bool true) ∧ Below w.heap.size w w' := by
  have HA := Lib.hid ha; have HB := Lib.hid hb
  have heq := fun W a b => eq_rng W a b
  clear ha hb
  go_enter Tryz.func50, Tryz.ntmps50
  go_wp2
  go_loopw [5] (fun i wr => ∃ j : Nat, j ≤ l.length ∧ i = .int .i64 j ∧ Below w.heap.size w wr) (fun i _ => l.length - (intOf i).toNat)
  case atStart => exact ⟨0, by omega, rfl, Below.refl _ _⟩
  case round =>
    obtain ⟨j, hj, rfl, hbw⟩ := hrel
    by_cases hlt : j < l.length
    · obtain ⟨b, off, x, rfl, hbl, hx, hc, hc1⟩ := rng_at (HA.out.ext hbw) hlt
      obtain ⟨b', off', y, rfl, hbl', hy, hd, hd1⟩ := rng_at (HB.out.ext hbw) hlt
      obtain rfl : x = y := by rw [hx] at hy; injection hy
      have i1 : (j : Int) < l.length := by omega
      clear hx hy
      go_wp2
      go_quiet (fail)
      go_wp2
      go_roundw
      case rel => exact ⟨j + 1, by omega, by go_num, (by repeat' (first | with_reducible exact Below.refl _ _ | with_reducible assumption | with_reducible apply Below.drew | with_reducible apply below_drewN | with_reducible apply Below.alloc | with_reducible apply Below.setCell | (with_reducible refine Below.trans ?_ (Below.mono (by assumption) ?_)) | (simp; done) | (simp; omega) | omega | with_reducible apply le_size_alloc | with_reducible apply le_size_drewN | with_reducible apply le_size_drew | with_reducible apply le_size_setCell | refine Nat.le_trans ?_ (Below.size (by assumption))))⟩
      case measure => simp [intOf]; omega
    · obtain rfl : j = l.length := by omega
      clear hlt
      go_wp2
      refine bodyPost_ret (v := .bool true) (by simp [results, Tryz.results50, go_sem]) rfl ?_
      exact ⟨rfl, (by repeat' (first | with_reducible exact Below.refl _ _ | with_reducible assumption | with_reducible apply Below.drew | with_reducible apply below_drewN | with_reducible apply Below.alloc | with_reducible apply Below.setCell | (with_reducible refine Below.trans ?_ (Below.mono (by assumption) ?_)) | (simp; done) | (simp; omega) | omega | with_reducible apply le_size_alloc | with_reducible apply le_size_drewN | with_reducible apply le_size_drew | with_reducible apply le_size_setCell | refine Nat.le_trans ?_ (Below.size (by assumption))))⟩

/-- Each process's ranges can be read. -/
def RgOk (w : World) (l : List PV) : Prop := ∀ p ∈ l, ∃ rs, SR rngE w p.rA rs ∧ p.rN = rs.length
theorem RgOk.ext {w w' : World} {l : List PV} (h : RgOk w l) (hb : Below w.heap.size w w') : RgOk w' l := fun p hp => by
  obtain ⟨rs, h1, h2⟩ := h p hp
  exact ⟨rs, h1.ext hb, h2⟩
/-- More than the statements cover. -/
def largeB (l : List PV) (sp : List Int) : Bool := ((l.take 11).any fun p => decide (70 < p.rN)) || decide (10 < l.length) || decide (20 < sp.length)
theorem pvC_reg (p : PV) : (pvC p).toArray[10]? = some (.slice p.rA p.rN p.rC) := by rw [List.getElem?_toArray]; exact pvC_regs p
theorem proc_reg {w : World} {b off : Nat} {p : PV} (h : w.rangeAt b off (pvC p)) : w.cell? ⟨b, off + 10, none⟩ = some (.slice p.rA p.rN p.rC) := h 10 _ (pvC_regs p)

set_option maxRecDepth 100000 in
set_option maxHeartbeats 2000000 in
theorem large_any (A : Option Addr) (c : Nat) (l : List PV) (B : Option Addr) (d : Nat) (sp : List Int) (w : World) (hs : SR procE w A l) (ll : l.length ≤ 9223372036854775807) (lp : sp.length ≤ 9223372036854775807) :
    Calls Tryz.prog 9 #[.slice A l.length c, .slice B sp.length d] w fun e w' => e = .returned (.bool (largeB l sp)) ∧ Below w.heap.size w w' := by
  have HS := Lib.hid hs
  obtain ⟨z, hz⟩ : ∃ z, largeB l sp = z := ⟨_, rfl⟩
  rw [hz]
  have HZ := Lib.hid hz
  clear hs hz
  go_enter Tryz.func9, Tryz.ntmps9
  go_wp2
  go_loopw [5] (fun i wr => ∃ k : Nat, k ≤ l.length ∧ k ≤ 11 ∧ i = .int .i64 k ∧ Hid (∀ p ∈ l.take k, ¬ 70 < p.rN) ∧ Below w.heap.size w wr) (fun i _ => l.length - (intOf i).toNat)
  case atStart => exact ⟨0, by omega, by omega, rfl, by show ∀ p ∈ _, _; simp, Below.refl _ _⟩
  case round =>
    obtain ⟨k, hk, hk11, rfl, HR, hbw⟩ := hrel
    by_cases hlt : k < l.length ∧ k < 11
    · obtain ⟨b, off, p, rfl, hbl, hx, hR⟩ := proc_at (HS.out.ext hbw) hlt.1
      have hreg := proc_reg hR
      have i1 : (k : Int) < l.length := by omega
      have i2 : (k : Int) < 11 := by omega
      by_cases h70 : 70 < p.rN
      · have hzz : z = true := by
          rw [← HZ.out]
          unfold largeB
          have : ((l.take 11).any fun p => decide (70 < p.rN)) = true := List.any_eq_true.2 ⟨p, List.mem_of_getElem? (show (l.take 11)[k]? = some p by rw [List.getElem?_take_of_lt hlt.2]; exact hx), by simpa using h70⟩
          rw [this]; rfl
        have h71 : (70 : Int) < p.rN := by omega
        subst hzz
        clear hx hR HR
        go_wp2
        refine bodyPost_ret (v := .bool true) (by simp [results, Tryz.results9, go_sem]) rfl ?_
        exact ⟨rfl, (by repeat' (first | with_reducible exact Below.refl _ _ | with_reducible assumption | with_reducible apply Below.drew | with_reducible apply below_drewN | with_reducible apply Below.alloc | with_reducible apply Below.setCell | (with_reducible refine Below.trans ?_ (Below.mono (by assumption) ?_)) | (simp; done) | (simp; omega) | omega | with_reducible apply le_size_alloc | with_reducible apply le_size_drewN | with_reducible apply le_size_drew | with_reducible apply le_size_setCell | refine Nat.le_trans ?_ (Below.size (by assumption))))⟩
      · have HN : Hid (∀ p ∈ l.take (k + 1), ¬ 70 < p.rN) := by
          show ∀ q ∈ _, _
          rw [take_snocG hx]
          intro q hq
          rcases List.mem_append.1 hq with h | h
          · exact HR.out q h
          · rw [List.mem_singleton.1 h]; exact h70
        have h71 : ¬ (70 : Int) < p.rN := by omega
        clear hx hR HR h70
        go_wp2
        go_roundw
        case rel => exact ⟨k + 1, by omega, by omega, by go_num, HN.out, (by repeat' (first | with_reducible exact Below.refl _ _ | with_reducible assumption | with_reducible apply Below.drew | with_reducible apply below_drewN | with_reducible apply Below.alloc | with_reducible apply Below.setCell | (with_reducible refine Below.trans ?_ (Below.mono (by assumption) ?_)) | (simp; done) | (simp; omega) | omega | with_reducible apply le_size_alloc | with_reducible apply le_size_drewN | with_reducible apply le_size_drew | with_reducible apply le_size_setCell | refine Nat.le_trans ?_ (Below.size (by assumption))))⟩
        case measure => simp [intOf]; omega
    · have hany : ((l.take 11).any fun p => decide (70 < p.rN)) = false := by
        rw [List.any_eq_false]
        intro p hp
        have hsub : p ∈ l.take k := by
          rcases (by omega : k = l.length ∨ k = 11) with e | e
          · rw [e, List.take_length]; exact List.mem_of_mem_take hp
          · rw [e]; exact hp
        simpa using HR.out p hsub
      have HE : Hid (z = (decide (10 < l.length) || decide (20 < sp.length))) := by
        show _ = _
        rw [← HZ.out]
        unfold largeB
        rw [hany]; rfl
      clear hany HR HZ
      by_cases g1 : k < l.length
      · obtain rfl : k = 11 := by omega
        have i1 : (11 : Int) < l.length := by omega
        have j1 : (10 : Int) < l.length := by omega
        have hzz : z = true := by rw [HE.out]; simp; omega
        subst hzz
        clear HE hlt
        go_wp2
        refine bodyPost_ret (v := .bool true) (by simp [results, Tryz.results9, go_sem]) rfl ?_
        exact ⟨rfl, (by repeat' (first | with_reducible exact Below.refl _ _ | with_reducible assumption | with_reducible apply Below.drew | with_reducible apply below_drewN | with_reducible apply Below.alloc | with_reducible apply Below.setCell | (with_reducible refine Below.trans ?_ (Below.mono (by assumption) ?_)) | (simp; done) | (simp; omega) | omega | with_reducible apply le_size_alloc | with_reducible apply le_size_drewN | with_reducible apply le_size_drew | with_reducible apply le_size_setCell | refine Nat.le_trans ?_ (Below.size (by assumption))))⟩
      · obtain rfl : k = l.length := by omega
        by_cases g2 : 10 < l.length
        · have j1 : (10 : Int) < l.length := by omega
          have hzz : z = true := by rw [HE.out]; simp; omega
          subst hzz
          clear HE hlt
          go_wp2
          refine bodyPost_ret (v := .bool true) (by simp [results, Tryz.results9, go_sem]) rfl ?_
          exact ⟨rfl, (by repeat' (first | with_reducible exact Below.refl _ _ | with_reducible assumption | with_reducible apply Below.drew | with_reducible apply below_drewN | with_reducible apply Below.alloc | with_reducible apply Below.setCell | (with_reducible refine Below.trans ?_ (Below.mono (by assumption) ?_)) | (simp; done) | (simp; omega) | omega | with_reducible apply le_size_alloc | with_reducible apply le_size_drewN | with_reducible apply le_size_drew | with_reducible apply le_size_setCell | refine Nat.le_trans ?_ (Below.size (by assumption))))⟩
        · have j1 : ¬ (10 : Int) < l.length := by omega
          have hzz : z = decide ((20 : Int) < sp.length) := by rw [HE.out, decide_eq_false g2, Bool.false_or]; congr 1; exact propext (by omega)
          subst hzz
          clear HE hlt
          go_wp2
          refine bodyPost_ret (v := .bool (decide ((20 : Int) < sp.length))) (by simp [results, Tryz.results9, go_sem]) rfl ?_
          exact ⟨rfl, (by repeat' (first | with_reducible exact Below.refl _ _ | with_reducible assumption | with_reducible apply Below.drew | with_reducible apply below_drewN | with_reducible apply Below.alloc | with_reducible apply Below.setCell | (with_reducible refine Below.trans ?_ (Below.mono (by assumption) ?_)) | (simp; done) | (simp; omega) | omega | with_reducible apply le_size_alloc | with_reducible apply le_size_drewN | with_reducible apply le_size_drew | with_reducible apply le_size_setCell | refine Nat.le_trans ?_ (Below.size (by assumption))))⟩
end Go.Proofs.YtmbpjafiinfkkaaGreatDoor
namespace Go.Proofs.YtmbpjafiinfkkaaGreatDoor
set_option linter.unusedSimpArgs false
set_option linter.unusedVariables false
open Go.RowKit Go.Maps

/-- Two processes that are the same but for where their ranges lie. -/
def SameP (w : World) (p q : PV) : Prop := q.st = p.st ∧ q.root = p.root ∧ q.lv = p.lv ∧ q.es = p.es ∧ ∃ rs, SR rngE w p.rA rs ∧ SR rngE w q.rA rs ∧ p.rN = rs.length ∧ q.rN = rs.length
theorem SameP.ext {w w' : World} {p q : PV} (h : SameP w p q) (hb : Below w.heap.size w w') : SameP w' p q := by
  obtain ⟨a, b, c, d, rs, e, f, g, h⟩ := h
  exact ⟨a, b, c, d, rs, e.ext hb, f.ext hb, g, h⟩
def SameL (w : World) (l l' : List PV) : Prop := l'.length = l.length ∧ ∀ (k : Nat) p q, l[k]? = some p → l'[k]? = some q → SameP w p q
theorem SameL.ext {w w' : World} {l l' : List PV} (h : SameL w l l') (hb : Below w.heap.size w w') : SameL w' l l' := ⟨h.1, fun k p q hp hq => (h.2 k p q hp hq).ext hb⟩
theorem SameL.snoc {w : World} {l l' : List PV} {p q : PV} (h : SameL w l l') (hp : SameP w p q) : SameL w (l ++ [p]) (l' ++ [q]) := by
  refine ⟨by simp [h.1], fun k a b ha hb => ?_⟩
  rcases Nat.lt_or_ge k l.length with hk | hk
  · rw [List.getElem?_append_left hk] at ha
    rw [List.getElem?_append_left (by rw [h.1]; exact hk)] at hb
    exact h.2 k a b ha hb
  · rw [List.getElem?_append_right hk] at ha
    rw [List.getElem?_append_right (by rw [h.1]; exact hk), h.1] at hb
    have hk0 := (List.getElem?_eq_some_iff.1 ha).1
    simp at hk0
    rw [show k - l.length = 0 by omega] at ha hb
    simp at ha hb
    subst ha hb
    exact hp
theorem OwnR.grownT {P : Program} {α β : Type} {E : Elt P α} {F : Elt P β} {w w' : World} {base base2 n c m d : Nat} {A B : Option Addr} {l : List α} {k : List β} (h : OwnR E w base (.slice A n c) l) (h2 : OwnR F w base2 (.slice B m d) k) (hne : E.e ≠ F.e) (hg : w.grownBy w' (Value.ownBlock (.slice B m d))) : OwnR E w' base (.slice A n c) l := by
  obtain ⟨hl, h⟩ := h
  refine ⟨hl, ?_⟩
  rcases h with h | ⟨g, cap, cur, e, h1, h3, h4⟩
  · exact .inl h
  · refine .inr ⟨g, cap, cur, e, h1, (hg.block g (Array.getElem?_eq_some_iff.1 h3).1 (fun e2 => ?_)).trans h3, h4⟩
    obtain ⟨_, ⟨e3, _⟩ | ⟨g2, cap2, cur2, e3, _, hb, _⟩⟩ := h2
    · injection e3 with e4 e5 e6
      subst e4
      simp [Value.ownBlock] at e2
    · injection e3 with e4 e5 e6
      subst e4
      simp only [Value.ownBlock, Option.some.injEq] at e2
      subst e2
      rw [hb] at h3
      injection h3 with h3
      injection h3 with h5 h6 h7
      exact hne h6.symm
/-- The same, the second one's ranges being the call's own. -/
def SameO (w0 w : World) (base : Nat) (p q : PV) : Prop := q.st = p.st ∧ q.root = p.root ∧ q.lv = p.lv ∧ q.es = p.es ∧ ∃ rs, SR rngE w0 p.rA rs ∧ p.rN = rs.length ∧ q.rN = rs.length ∧ (rs = [] ∨ OwnR rngE w base (.slice q.rA rs.length q.rC) rs)
def SameLO (w0 w : World) (base : Nat) (l l' : List PV) : Prop := l'.length = l.length ∧ ∀ (k : Nat) p q, l[k]? = some p → l'[k]? = some q → SameO w0 w base p q
theorem SameLO.step {w0 w w' : World} {base : Nat} {l l' : List PV} (h : SameLO w0 w base l l') (hs : ∀ A n c rs, OwnR rngE w base (.slice A n c) rs → OwnR rngE w' base (.slice A n c) rs) : SameLO w0 w' base l l' := ⟨h.1, fun k p q hp hq => by
  obtain ⟨a, b, c, d, rs, e, f, g, i⟩ := h.2 k p q hp hq
  exact ⟨a, b, c, d, rs, e, f, g, i.imp (fun x => x) (hs _ _ _ _)⟩⟩
theorem SameLO.snoc {w0 w : World} {base : Nat} {l l' : List PV} {p q : PV} (h : SameLO w0 w base l l') (hp : SameO w0 w base p q) : SameLO w0 w base (l ++ [p]) (l' ++ [q]) := by
  refine ⟨by simp [h.1], fun k a b ha hb => ?_⟩
  rcases Nat.lt_or_ge k l.length with hk | hk
  · rw [List.getElem?_append_left hk] at ha
    rw [List.getElem?_append_left (by rw [h.1]; exact hk)] at hb
    exact h.2 k a b ha hb
  · rw [List.getElem?_append_right hk] at ha
    rw [List.getElem?_append_right (by rw [h.1]; exact hk), h.1] at hb
    have hk0 := (List.getElem?_eq_some_iff.1 ha).1
    simp at hk0
    rw [show k - l.length = 0 by omega] at ha hb
    simp at ha hb
    subst ha hb
    exact hp
theorem SameLO.same {w0 w : World} {base : Nat} {l l' : List PV} (h : SameLO w0 w base l l') (hb : Below w0.heap.size w0 w) : SameL w l l' := ⟨h.1, fun k p q hp hq => by
  obtain ⟨a, b, c, d, rs, e, f, g, i⟩ := h.2 k p q hp hq
  refine ⟨a, b, c, d, rs, e.ext hb, ?_, f, g⟩
  rcases i with i | i
  · rw [i]; exact SR.nil
  · exact (OwnR.sr i).2⟩
theorem rng_ne : rngE.e ≠ procE.e := by show (115 : TypeId) ≠ 41; decide
theorem setG_cells (p : PV) (A : Option Addr) (n c : Nat) : (pvC p).toArray.setIfInBounds 10 (.slice A n c) = (pvC { p with rA := A, rN := n, rC := c }).toArray := by
  rw [List.setIfInBounds_toArray]
  congr 1
  unfold pvC
  rw [show (10 : Nat) = 8 + 1 + 1 by omega, List.set_cons_succ, List.set_cons_succ]
  congr 2
  rw [List.set_append_right _ _ (by simp [p.hl]), List.length_map, p.hl]
  rfl
theorem Blk.setG {p : PV} {w : World} {b : Nat} {t : TypeId} (h : Blk w b t (pvC p).toArray) (A : Option Addr) (n c : Nat) : Blk (w.setCell ⟨b, 10, none⟩ (.slice A n c)) b t (pvC { p with rA := A, rN := n, rC := c }).toArray := by
  rw [← setG_cells]
  exact h.set_ _ _

theorem exec_load_mid {P : Program} {o : Oper} {a : Act} {w : World} (ty : TypeId) (x : Operand) (ho : o.op = .load ty x) (b off : Nat) (hx : a.eval x = .pointer (some ⟨b, off, none⟩)) (cs : List Value) (d : TypeDesc) (hc : w.rangeAt b off cs)
    (hu : P.underlying ty = some d) (hd : d.isRow = true) (hi : (P.info? ty).map (·.size) = some cs.length) : (execOp a.eval o).run P w = .ok (.value (.agg cs.toArray)) w := by
  unfold execOp
  simp only [ho, hx, Instr.loadAt, Instr.sureAddr, Sem.run_bind, Sem.run_pure, Result.andThen_ok, run_loadVar_mid w b off ty cs d hc hu hd hi]
set_option maxRecDepth 100000 in
set_option maxHeartbeats 16000000 in
theorem own_any (A : Option Addr) (c : Nat) (l : List PV) (w : World) (hs : SR procE w A l) (hr : RgOk w l) (ll : l.length ≤ 10) (hN : ∀ p ∈ l, p.rN ≤ 70) :
    Calls Tryz.prog 11 #[.slice A l.length c] w fun e w' => (∃ B d l', e = .returned (.slice B l.length d) ∧ SR procE w' B l' ∧ SameL w' l l') ∧ Below w.heap.size w w' := by
  have HS := Lib.hid hs
  have HR := Lib.hid hr
  have HN := Lib.hid hN
  clear hs hr hN
  go_enter Tryz.func11, Tryz.ntmps11
  go_wp2
  go_loopw [4, 3] (fun i s wr => ∃ (k : Nat) (A' : Option Addr) (c' : Nat) (l' : List PV), k ≤ l.length ∧ i = .int .i64 k ∧ s = .slice A' k c' ∧ Hid (l'.length = k) ∧ Hid (OwnR procE wr w.heap.size (.slice A' k c') l') ∧ Hid (SameLO w wr w.heap.size (l.take k) l') ∧ Below w.heap.size w wr) (fun i _ _ => l.length - (intOf i).toNat)
  case atStart => exact ⟨0, none, 0, [], by omega, rfl, rfl, rfl, OwnR.nil, ⟨by simp, fun k p q hp hq => by cases hq⟩, Below.refl _ _⟩
  case round =>
    obtain ⟨k, A', c', l', hk, rfl, rfl, HL, HO, HQ, hbw⟩ := hrel
    have zw := hbw.size
    by_cases hlt : k < l.length
    · obtain ⟨b, off, p, rfl, hbl, hx, hRg⟩ := proc_at (HS.out.ext hbw) hlt
      have i1 : (k : Int) < l.length := by omega
      obtain ⟨rs, hrs, hrn⟩ := HR.out p (List.mem_of_getElem? hx)
      have hn70 := HN.out p (List.mem_of_getElem? hx)
      have hrl : rs.length ≤ 70 := by omega
      have HRS := Lib.hid hrs
      have HRN := Lib.hid hrn
      have hT : Hid (l.take (k + 1) = l.take k ++ [p]) := take_snocG hx
      have hO : OwnR procE wr w.heap.size (.slice A' l'.length c') l' := by rw [HL.out]; exact HO.out
      have HOO := Lib.hid hO
      have H2 : Hid (∀ z : PV, (l' ++ [z]).length = k + 1) := fun z => by rw [List.length_append, HL.out]; rfl
      clear hO HO hx hrs hrn hn70
      go_wp2_with (first
        | (refine wpList_load_mid rfl 41 _ rfl b (off + k * 75) rfl (pvC p) _ hRg Tryz.underlying41 rfl (sz75 p) ?_)
        | (refine wpList_store_newV _ rfl 41 _ _ rfl _ _ rfl rfl (sz75' p) (by rw [zc75]; exact size75 p) (all75 p) ?_; intro V kV bV zV; have v10 : V.cell? ⟨wr.heap.size, 10, none⟩ = some (.slice p.rA p.rN p.rC) := (kV.cell_ 10).trans (pvC_reg p))
        | (refine wpList_load_mid rfl 41 _ rfl wr.heap.size 0 rfl (pvC q) _ hRg2 Tryz.underlying41 rfl (sz75 q) ?_)
        | (refine wpList_buildP rfl 1 _ rfl [q] rfl rfl (by simp) (by simp) ?_)
        | (at_builtin; refine wpList_appR rngE rfl (.tmp 16) (.tmp 18) _ rfl rfl _ V.heap.size (by simp) (some ⟨V.heap.size, 0, none⟩) 0 0 [] rfl (.inl ⟨rfl, SR.nil⟩) p.rA p.rC p.rN rs HRN.out (HRS.out.ext (by have d1 := hbw.trans (bV.mono zw); clear hbw bV; exact (by repeat' (first | with_reducible exact Below.refl _ _ | with_reducible assumption | with_reducible apply Below.drew | with_reducible apply below_drewN | with_reducible apply Below.alloc | with_reducible apply Below.setCell | (with_reducible refine Below.trans ?_ (Below.mono (by assumption) ?_)) | (simp; done) | (simp; omega) | omega | with_reducible apply le_size_alloc | with_reducible apply le_size_drewN | with_reducible apply le_size_drew | with_reducible apply le_size_setCell | refine Nat.le_trans ?_ (Below.size (by assumption)))))) (by simp; omega) rfl rfl ?_; intro A5 c5 w5 hc5 hb5 ho5; simp only [List.nil_append] at hc5 ho5 ⊢; have ho := ho5 (.inl trivial); clear ho5 hc5; have hb5V : Below V.heap.size V w5 := (by clear hbw bV; exact (by repeat' (first | with_reducible exact Below.refl _ _ | with_reducible assumption | with_reducible apply Below.drew | with_reducible apply below_drewN | with_reducible apply Below.alloc | with_reducible apply Below.setCell | (with_reducible refine Below.trans ?_ (Below.mono (by assumption) ?_)) | (simp; done) | (simp; omega) | omega | with_reducible apply le_size_alloc | with_reducible apply le_size_drewN | with_reducible apply le_size_drew | with_reducible apply le_size_setCell | refine Nat.le_trans ?_ (Below.size (by assumption))))); have k5 := kV.below_ hb5V zV; have f10 := k5.frozen_ 10; have g10 : w5.cell? ⟨wr.heap.size, 10, none⟩ = some (.slice p.rA p.rN p.rC) := (k5.cell_ 10).trans (pvC_reg p); obtain ⟨q, hq⟩ : ∃ q : PV, q = { p with rA := A5, rN := rs.length, rC := c5 } := ⟨_, rfl⟩; have k6 : Blk (w5.setCell ⟨wr.heap.size, 10, none⟩ (.slice A5 rs.length c5)) wr.heap.size 41 (pvC q).toArray := (by rw [hq]; exact k5.setG A5 rs.length c5); have hRg2 := k6.rangePV; have d1 : Below wr.heap.size wr w5 := bV.trans (hb5V.mono (by omega)); have d2 : Below wr.heap.size wr (w5.setCell ⟨wr.heap.size, 10, none⟩ (.slice A5 rs.length c5)) := Below.setCell d1 (by simp) _; have z15 := d1.size; clear hb5 bV)
        | (at_builtin; refine wpList_ownR procE rfl (.tmp 21) (.tmp 23) _ rfl rfl _ w.heap.size (by have := d2.size; simp; simp at this; omega) A' c' k l' HL.out.symm (HOO.out.ext (by clear hbw d1 hb5V; exact (by repeat' (first | with_reducible exact Below.refl _ _ | with_reducible assumption | with_reducible apply Below.drew | with_reducible apply below_drewN | with_reducible apply Below.alloc | with_reducible apply Below.setCell | (with_reducible refine Below.trans ?_ (Below.mono (by assumption) ?_)) | (simp; done) | (simp; omega) | omega | with_reducible apply le_size_alloc | with_reducible apply le_size_drewN | with_reducible apply le_size_drew | with_reducible apply le_size_setCell | refine Nat.le_trans ?_ (Below.size (by assumption)))))) _ 1 1 [q] rfl (SR.of_blk (E := procE) (l := [q]) (t := 41) (Blk.new_ (by simp) rfl)) (by simp) (by simp; have := HL.out; omega) rfl rfl ?_; intro A8 c8 w8 hO8 hb8 hg8; rw [H2.out] at hO8 ⊢))
      have d9 : Below wr.heap.size wr ((w5.setCell ⟨wr.heap.size, 10, none⟩ (.slice A5 rs.length c5)).alloc (.cells (procE.flat [q]).toArray 41)) := by clear hbw d1 hb5V hb8; exact (by repeat' (first | with_reducible exact Below.refl _ _ | with_reducible assumption | with_reducible apply Below.drew | with_reducible apply below_drewN | with_reducible apply Below.alloc | with_reducible apply Below.setCell | (with_reducible refine Below.trans ?_ (Below.mono (by assumption) ?_)) | (simp; done) | (simp; omega) | omega | with_reducible apply le_size_alloc | with_reducible apply le_size_drewN | with_reducible apply le_size_drew | with_reducible apply le_size_setCell | refine Nat.le_trans ?_ (Below.size (by assumption))))
      have hO9 := HOO.out.ext d9
      have ho9 : rs = [] ∨ OwnR rngE ((w5.setCell ⟨wr.heap.size, 10, none⟩ (.slice A5 rs.length c5)).alloc (.cells (procE.flat [q]).toArray 41)) w.heap.size (.slice A5 rs.length c5) rs := ho.imp (fun x => x) fun h => OwnR.base_ (OwnR.ext (OwnR.far h (.slice A5 rs.length c5) (by show wr.heap.size < V.heap.size; exact zV)) ((Below.refl _ _).alloc (Nat.le_refl _) _)) (by omega)
      have hSP : SameO w w8 w.heap.size p q := by
        rw [hq]
        exact ⟨rfl, rfl, rfl, rfl, rs, HRS.out, HRN.out, rfl, ho9.imp (fun x => x) fun h => OwnR.grownT h hO9 rng_ne hg8⟩
      have HSP := Lib.hid ((HQ.out.step fun A n c rs h => OwnR.grownT (OwnR.ext h d9) hO9 rng_ne hg8).snoc hSP)
      have HB8 : Hid (Below w.heap.size w w8) := (hbw.trans (d9.mono zw)).trans hb8
      go_roundw
      case rel => exact ⟨k + 1, A8, c8, l' ++ [q], by omega, by go_num, rfl, H2.out _, hO8, by show SameLO _ _ _ _ _; rw [hT.out]; exact HSP.out, HB8.out⟩
      case measure => simp [intOf]; omega
    · obtain rfl : k = l.length := by omega
      have hQ := HQ.out.same hbw
      rw [List.take_length] at hQ
      have HQQ := Lib.hid hQ
      have hO : OwnR procE wr w.heap.size (.slice A' l.length c') l' := HO.out
      have HOO := Lib.hid hO
      clear hQ hO HO HQ hlt
      go_wp2
      refine bodyPost_ret (v := .slice A' l.length c') (by simp [results, Tryz.results11, go_sem]) rfl ?_
      exact ⟨⟨A', c', l', rfl, (OwnR.sr HOO.out).2, HQQ.out⟩, hbw⟩
set_option maxRecDepth 100000 in
set_option maxHeartbeats 16000000 in
theorem same_any (A1 : Option Addr) (c1 : Nat) (l1 : List PV) (A2 : Option Addr) (c2 : Nat) (l : List PV) (w : World) (h1 : SR procE w A1 l1) (h2 : SR procE w A2 l) (hq : SameL w l l1) (ll : l.length ≤ 10) (hN : ∀ p ∈ l, p.rN ≤ 70) :
    Calls Tryz.prog 22 #[.slice A1 l.length c1, .slice A2 l.length c2] w fun e w' => e = .returned (.bool true) ∧ Below w.heap.size w w' := by
  have HA := Lib.hid h1; have HB := Lib.hid h2; have HQ := Lib.hid hq; have HN := Lib.hid hN
  clear h1 h2 hq hN
  go_enter Tryz.func22, Tryz.ntmps22
  go_wp2
  go_loopw [5] (fun i wr => ∃ k : Nat, k ≤ l.length ∧ i = .int .i64 k ∧ Below w.heap.size w wr) (fun i _ => l.length - (intOf i).toNat)
  case atStart => exact ⟨0, by omega, rfl, Below.refl _ _⟩
  case round =>
    obtain ⟨k, hk, rfl, hbw⟩ := hrel
    obtain ⟨wq, rfl⟩ : ∃ wq, wq = wr := ⟨_, rfl⟩
    have zw := hbw.size
    by_cases hlt : k < l.length
    · obtain ⟨b2, o2, p, rfl, hb2, hpx, hR2⟩ := proc_at (HB.out.ext hbw) hlt
      obtain ⟨b1, o1, q, rfl, hb1, hqx, hR1⟩ := proc_at (HA.out.ext hbw) (show k < l1.length by rw [HQ.out.1]; exact hlt)
      obtain ⟨e1, e2, e3, e4, rs, hrp, hrq, en1, en2⟩ := (HQ.out.ext hbw).2 k p q hpx hqx
      have hn70 := HN.out p (List.mem_of_getElem? hpx)
      have i1 : (k : Int) < l.length := by omega
      have hs1 : wq.cell? ⟨b1, o1 + k * 75, none⟩ = some (.int .i64 p.st) := by have := hR1 0 _ (show (pvC q)[0]? = some (.int .i64 q.st) from rfl); rw [e1] at this; simpa using this
      have hs2 : wq.cell? ⟨b2, o2 + k * 75, none⟩ = some (.int .i64 p.st) := by have := hR2 0 _ (show (pvC p)[0]? = some (.int .i64 p.st) from rfl); simpa using this
      have hr1 : wq.cell? ⟨b1, o1 + k * 75 + 1, none⟩ = some (.int .i64 p.root) := by have := hR1 1 _ (show (pvC q)[1]? = some (.int .i64 q.root) from rfl); rw [e2] at this; exact this
      have hr2 : wq.cell? ⟨b2, o2 + k * 75 + 1, none⟩ = some (.int .i64 p.root) := hR2 1 _ rfl
      have hg1 : wq.cell? ⟨b1, o1 + k * 75 + 10, none⟩ = some (.slice q.rA rs.length q.rC) := by have := proc_reg hR1; rw [en2] at this; exact this
      have hg2 : wq.cell? ⟨b2, o2 + k * 75 + 10, none⟩ = some (.slice p.rA rs.length p.rC) := by have := proc_reg hR2; rw [en1] at this; exact this
      have hl1 : ∀ w', Below wq.heap.size wq w' → w'.rangeAt b1 (o1 + k * 75 + 2) (leavesL p.lv) := fun w' hb j v hv => cell_keep hb ((by rw [← e3]; exact range8 q hR1 : wq.rangeAt b1 (o1 + k * 75 + 2) (leavesL p.lv)) j v hv) hb1
      have hl2 : ∀ w', Below wq.heap.size wq w' → w'.rangeAt b2 (o2 + k * 75 + 2) (leavesL p.lv) := fun w' hb j v hv => cell_keep hb (range8 p hR2 j v hv) hb2
      have he1 : ∀ w', Below wq.heap.size wq w' → w'.rangeAt b1 (o1 + k * 75 + 11) (wordsL p.es) := fun w' hb j v hv => cell_keep hb ((by rw [← e4]; exact range64 q hR1 : wq.rangeAt b1 (o1 + k * 75 + 11) (wordsL p.es)) j v hv) hb1
      have he2 : ∀ w', Below wq.heap.size wq w' → w'.rangeAt b2 (o2 + k * 75 + 11) (wordsL p.es) := fun w' hb j v hv => cell_keep hb (range64 p hR2 j v hv) hb2
      have hSR : ∀ w', Below wq.heap.size wq w' → Calls Tryz.prog 50 #[.slice q.rA rs.length q.rC, .slice p.rA rs.length p.rC] w' fun e w2 => e = .returned (.bool true) ∧ Below w'.heap.size w' w2 := fun w' hb => SameRanges_eq q.rA p.rA q.rC p.rC rs w' (hrq.ext hb) (hrp.ext hb) (by omega)
      clear hR1 hR2 hpx hqx hrp hrq en1 en2 e1 e2 e3 e4
      go_wp2_with fail
      refine wp_region_chain (.is ?fsm0 :: .is ?fsm1 :: .is ?fsm2 :: .is ?fsm3 :: .is ?fsm4 :: .is ?fsm5 :: .is ?fsm6 :: .is ?fsm7 :: .is ?fsm8 :: .is ?fsm9 :: .is (.bool false) :: .is (.bool false) :: .is ?fsm12 :: .is ?fsm13 :: .is ?fsm14 :: .is ?fsm15 :: .is ?fsm16 :: .is ?fsm17 :: .is ?fsm18 :: .is ?fsm19 :: .is ?fsm20 :: .is ?fsm21 :: .is (.bool false) :: .is (.bool false) :: .is (.bool false) :: .is ?fsm25 :: .is ?fsm26 :: .is ?fsm27 :: .is ?fsm28 :: .is (.agg (leavesL p.lv).toArray) :: .is ?fsm30 :: .is ?fsm31 :: .is ?fsm32 :: .is ?fsm33 :: .is (.agg (leavesL p.lv).toArray) :: .is (.bool false) :: .is (.bool false) :: .is (.bool false) :: .is ?fsm38 :: .is ?fsm39 :: .is ?fsm40 :: .is ?fsm41 :: .is (.agg (wordsL p.es).toArray) :: .is ?fsm43 :: .is ?fsm44 :: .is ?fsm45 :: .is ?fsm46 :: .is (.agg (wordsL p.es).toArray) :: .is (.bool false) :: .is (.bool false) :: .is (.bool false) :: .is ?fsm51 :: .is ?fsm52 :: .is ?fsm53 :: .is ?fsm54 :: .is ?fsm55 :: .is ?fsm56 :: .is ?fsm57 :: .is ?fsm58 :: .is ?fsm59 :: .is ?fsm60 :: .is (.bool true) :: .is (.bool false) :: .is (.bool false) :: []) (by kernel_rfl) (by kernel_rfl) (by kernel_rfl) (lasts_is (lasts_is (lasts_is (lasts_is (lasts_is (lasts_is (lasts_is (lasts_is (lasts_is (lasts_is (lasts_is (lasts_is (lasts_is (lasts_is (lasts_is (lasts_is (lasts_is (lasts_is (lasts_is (lasts_is (lasts_is (lasts_is (lasts_is (lasts_is (lasts_is (lasts_is (lasts_is (lasts_is (lasts_is (lasts_is (lasts_is (lasts_is (lasts_is (lasts_is (lasts_is (lasts_is (lasts_is (lasts_is (lasts_is (lasts_is (lasts_is (lasts_is (lasts_is (lasts_is (lasts_is (lasts_is (lasts_is (lasts_is (lasts_is (lasts_is (lasts_is (lasts_is (lasts_is (lasts_is (lasts_is (lasts_is (lasts_is (lasts_is (lasts_is (lasts_is (lasts_is (lasts_is (lasts_is (lasts_is lasts_nil)))))))))))))))))))))))))))))))))))))))))))))))))))))))))))))))) (fun W0 hb0 hz0 => ?_)
      rotate_left 46
      refine chain_is (step_take (by rfl) ?ysm0) ?rsm0
      case ysm0 =>
        intro w hbw hd
        clear hd
        go_simp
        first | done | with_reducible rfl
      (try simp only [Act.put, List.setIfInBounds_toArray, List.set_cons_zero, List.set_cons_succ, List.nil_append, List.cons_append])
      refine chain_is (step_take (by rfl) ?ysm1) ?rsm1
      case ysm1 =>
        intro w hbw hd
        clear hd
        go_simp
        first | done | with_reducible rfl
      (try simp only [Act.put, List.setIfInBounds_toArray, List.set_cons_zero, List.set_cons_succ, List.nil_append, List.cons_append])
      refine chain_is (step_take (by rfl) ?ysm2) ?rsm2
      case ysm2 =>
        intro w hbw hd
        clear hd
        go_simp
        first | done | with_reducible rfl
      (try simp only [Act.put, List.setIfInBounds_toArray, List.set_cons_zero, List.set_cons_succ, List.nil_append, List.cons_append])
      refine chain_is (step_take (by rfl) ?ysm3) ?rsm3
      case ysm3 =>
        intro w hbw hd
        clear hd
        go_simp
        first | done | with_reducible rfl
      (try simp only [Act.put, List.setIfInBounds_toArray, List.set_cons_zero, List.set_cons_succ, List.nil_append, List.cons_append])
      refine chain_is (step_take (by rfl) ?ysm4) ?rsm4
      case ysm4 =>
        intro w hbw hd
        have q := cell_keep hbw (cell_keep hb0 hs1 hb1) (by rw [hz0]; exact hb1)
        clear hd
        go_simp
        first | done | with_reducible rfl
      (try simp only [Act.put, List.setIfInBounds_toArray, List.set_cons_zero, List.set_cons_succ, List.nil_append, List.cons_append])
      refine chain_is (step_take (by rfl) ?ysm5) ?rsm5
      case ysm5 =>
        intro w hbw hd
        clear hd
        go_simp
        first | done | with_reducible rfl
      (try simp only [Act.put, List.setIfInBounds_toArray, List.set_cons_zero, List.set_cons_succ, List.nil_append, List.cons_append])
      refine chain_is (step_take (by rfl) ?ysm6) ?rsm6
      case ysm6 =>
        intro w hbw hd
        clear hd
        go_simp
        first | done | with_reducible rfl
      (try simp only [Act.put, List.setIfInBounds_toArray, List.set_cons_zero, List.set_cons_succ, List.nil_append, List.cons_append])
      refine chain_is (step_take (by rfl) ?ysm7) ?rsm7
      case ysm7 =>
        intro w hbw hd
        clear hd
        go_simp
        first | done | with_reducible rfl
      (try simp only [Act.put, List.setIfInBounds_toArray, List.set_cons_zero, List.set_cons_succ, List.nil_append, List.cons_append])
      refine chain_is (step_take (by rfl) ?ysm8) ?rsm8
      case ysm8 =>
        intro w hbw hd
        clear hd
        go_simp
        first | done | with_reducible rfl
      (try simp only [Act.put, List.setIfInBounds_toArray, List.set_cons_zero, List.set_cons_succ, List.nil_append, List.cons_append])
      refine chain_is (step_take (by rfl) ?ysm9) ?rsm9
      case ysm9 =>
        intro w hbw hd
        have q := cell_keep hbw (cell_keep hb0 hs2 hb2) (by rw [hz0]; exact hb2)
        clear hd
        go_simp
        first | done | with_reducible rfl
      (try simp only [Act.put, List.setIfInBounds_toArray, List.set_cons_zero, List.set_cons_succ, List.nil_append, List.cons_append])
      refine chain_is (step_take (by rfl) ?ysm10) ?rsm10
      case ysm10 =>
        intro w hbw hd
        clear hd
        go_simp
        first | done | with_reducible rfl
      (try simp only [Act.put, List.setIfInBounds_toArray, List.set_cons_zero, List.set_cons_succ, List.nil_append, List.cons_append])
      refine chain_is (step_take (by rfl) ?ysm11) ?rsm11
      case ysm11 =>
        intro w hbw hd
        clear hd
        go_simp
        first | done | with_reducible rfl
      (try simp only [Act.put, List.setIfInBounds_toArray, List.set_cons_zero, List.set_cons_succ, List.nil_append, List.cons_append])
      refine chain_is (step_take (by rfl) ?ysm12) ?rsm12
      case ysm12 =>
        intro w hbw hd
        clear hd
        go_simp
        first | done | with_reducible rfl
      (try simp only [Act.put, List.setIfInBounds_toArray, List.set_cons_zero, List.set_cons_succ, List.nil_append, List.cons_append])
      refine chain_is (step_take (by rfl) ?ysm13) ?rsm13
      case ysm13 =>
        intro w hbw hd
        clear hd
        go_simp
        first | done | with_reducible rfl
      (try simp only [Act.put, List.setIfInBounds_toArray, List.set_cons_zero, List.set_cons_succ, List.nil_append, List.cons_append])
      refine chain_is (step_take (by rfl) ?ysm14) ?rsm14
      case ysm14 =>
        intro w hbw hd
        clear hd
        go_simp
        first | done | with_reducible rfl
      (try simp only [Act.put, List.setIfInBounds_toArray, List.set_cons_zero, List.set_cons_succ, List.nil_append, List.cons_append])
      refine chain_is (step_take (by rfl) ?ysm15) ?rsm15
      case ysm15 =>
        intro w hbw hd
        clear hd
        go_simp
        first | done | with_reducible rfl
      (try simp only [Act.put, List.setIfInBounds_toArray, List.set_cons_zero, List.set_cons_succ, List.nil_append, List.cons_append])
      refine chain_is (step_take (by rfl) ?ysm16) ?rsm16
      case ysm16 =>
        intro w hbw hd
        have q := cell_keep hbw (cell_keep hb0 hr1 hb1) (by rw [hz0]; exact hb1)
        clear hd
        go_simp
        first | done | with_reducible rfl
      (try simp only [Act.put, List.setIfInBounds_toArray, List.set_cons_zero, List.set_cons_succ, List.nil_append, List.cons_append])
      refine chain_is (step_take (by rfl) ?ysm17) ?rsm17
      case ysm17 =>
        intro w hbw hd
        clear hd
        go_simp
        first | done | with_reducible rfl
      (try simp only [Act.put, List.setIfInBounds_toArray, List.set_cons_zero, List.set_cons_succ, List.nil_append, List.cons_append])
      refine chain_is (step_take (by rfl) ?ysm18) ?rsm18
      case ysm18 =>
        intro w hbw hd
        clear hd
        go_simp
        first | done | with_reducible rfl
      (try simp only [Act.put, List.setIfInBounds_toArray, List.set_cons_zero, List.set_cons_succ, List.nil_append, List.cons_append])
      refine chain_is (step_take (by rfl) ?ysm19) ?rsm19
      case ysm19 =>
        intro w hbw hd
        clear hd
        go_simp
        first | done | with_reducible rfl
      (try simp only [Act.put, List.setIfInBounds_toArray, List.set_cons_zero, List.set_cons_succ, List.nil_append, List.cons_append])
      refine chain_is (step_take (by rfl) ?ysm20) ?rsm20
      case ysm20 =>
        intro w hbw hd
        clear hd
        go_simp
        first | done | with_reducible rfl
      (try simp only [Act.put, List.setIfInBounds_toArray, List.set_cons_zero, List.set_cons_succ, List.nil_append, List.cons_append])
      refine chain_is (step_take (by rfl) ?ysm21) ?rsm21
      case ysm21 =>
        intro w hbw hd
        have q := cell_keep hbw (cell_keep hb0 hr2 hb2) (by rw [hz0]; exact hb2)
        clear hd
        go_simp
        first | done | with_reducible rfl
      (try simp only [Act.put, List.setIfInBounds_toArray, List.set_cons_zero, List.set_cons_succ, List.nil_append, List.cons_append])
      refine chain_is (step_take (by rfl) ?ysm22) ?rsm22
      case ysm22 =>
        intro w hbw hd
        clear hd
        go_simp
        first | done | with_reducible rfl
      (try simp only [Act.put, List.setIfInBounds_toArray, List.set_cons_zero, List.set_cons_succ, List.nil_append, List.cons_append])
      refine chain_is (step_take (by rfl) ?ysm23) ?rsm23
      case ysm23 =>
        intro w hbw hd
        clear hd
        go_simp
        first | done | with_reducible rfl
      (try simp only [Act.put, List.setIfInBounds_toArray, List.set_cons_zero, List.set_cons_succ, List.nil_append, List.cons_append])
      refine chain_is (step_take (by rfl) ?ysm24) ?rsm24
      case ysm24 =>
        intro w hbw hd
        clear hd
        go_simp
        first | done | with_reducible rfl
      (try simp only [Act.put, List.setIfInBounds_toArray, List.set_cons_zero, List.set_cons_succ, List.nil_append, List.cons_append])
      refine chain_is (step_take (by rfl) ?ysm25) ?rsm25
      case ysm25 =>
        intro w hbw hd
        clear hd
        go_simp
        first | done | with_reducible rfl
      (try simp only [Act.put, List.setIfInBounds_toArray, List.set_cons_zero, List.set_cons_succ, List.nil_append, List.cons_append])
      refine chain_is (step_take (by rfl) ?ysm26) ?rsm26
      case ysm26 =>
        intro w hbw hd
        clear hd
        go_simp
        first | done | with_reducible rfl
      (try simp only [Act.put, List.setIfInBounds_toArray, List.set_cons_zero, List.set_cons_succ, List.nil_append, List.cons_append])
      refine chain_is (step_take (by rfl) ?ysm27) ?rsm27
      case ysm27 =>
        intro w hbw hd
        clear hd
        go_simp
        first | done | with_reducible rfl
      (try simp only [Act.put, List.setIfInBounds_toArray, List.set_cons_zero, List.set_cons_succ, List.nil_append, List.cons_append])
      refine chain_is (step_take (by rfl) ?ysm28) ?rsm28
      case ysm28 =>
        intro w hbw hd
        clear hd
        go_simp
        first | done | with_reducible rfl
      (try simp only [Act.put, List.setIfInBounds_toArray, List.set_cons_zero, List.set_cons_succ, List.nil_append, List.cons_append])
      refine chain_is (step_take (by rfl) ?ysm29) ?rsm29
      case ysm29 =>
        intro w hbw hd
        clear hd
        exact exec_load_mid _ _ rfl b1 (o1 + k * 75 + 2) rfl _ _ (hl1 w (hb0.trans (hbw.mono (by omega)))) Tryz.underlying36 rfl (sz8 p.hl)
      (try simp only [Act.put, List.setIfInBounds_toArray, List.set_cons_zero, List.set_cons_succ, List.nil_append, List.cons_append])
      refine chain_is (step_take (by rfl) ?ysm30) ?rsm30
      case ysm30 =>
        intro w hbw hd
        clear hd
        go_simp
        first | done | with_reducible rfl
      (try simp only [Act.put, List.setIfInBounds_toArray, List.set_cons_zero, List.set_cons_succ, List.nil_append, List.cons_append])
      refine chain_is (step_take (by rfl) ?ysm31) ?rsm31
      case ysm31 =>
        intro w hbw hd
        clear hd
        go_simp
        first | done | with_reducible rfl
      (try simp only [Act.put, List.setIfInBounds_toArray, List.set_cons_zero, List.set_cons_succ, List.nil_append, List.cons_append])
      refine chain_is (step_take (by rfl) ?ysm32) ?rsm32
      case ysm32 =>
        intro w hbw hd
        clear hd
        go_simp
        first | done | with_reducible rfl
      (try simp only [Act.put, List.setIfInBounds_toArray, List.set_cons_zero, List.set_cons_succ, List.nil_append, List.cons_append])
      refine chain_is (step_take (by rfl) ?ysm33) ?rsm33
      case ysm33 =>
        intro w hbw hd
        clear hd
        go_simp
        first | done | with_reducible rfl
      (try simp only [Act.put, List.setIfInBounds_toArray, List.set_cons_zero, List.set_cons_succ, List.nil_append, List.cons_append])
      refine chain_is (step_take (by rfl) ?ysm34) ?rsm34
      case ysm34 =>
        intro w hbw hd
        clear hd
        exact exec_load_mid _ _ rfl b2 (o2 + k * 75 + 2) rfl _ _ (hl2 w (hb0.trans (hbw.mono (by omega)))) Tryz.underlying36 rfl (sz8 p.hl)
      (try simp only [Act.put, List.setIfInBounds_toArray, List.set_cons_zero, List.set_cons_succ, List.nil_append, List.cons_append])
      refine chain_is (step_take (by rfl) ?ysm35) ?rsm35
      case ysm35 =>
        intro w hbw hd
        have q : (Op.equalIn 10000 36 (.agg (leavesL p.lv).toArray) (.agg (leavesL p.lv).toArray)).run Tryz.prog w = .ok true w := eq_lv w p.hl
        clear hd
        go_simp
        first | done | with_reducible rfl
      (try simp only [Act.put, List.setIfInBounds_toArray, List.set_cons_zero, List.set_cons_succ, List.nil_append, List.cons_append])
      refine chain_is (step_take (by rfl) ?ysm36) ?rsm36
      case ysm36 =>
        intro w hbw hd
        clear hd
        go_simp
        first | done | with_reducible rfl
      (try simp only [Act.put, List.setIfInBounds_toArray, List.set_cons_zero, List.set_cons_succ, List.nil_append, List.cons_append])
      refine chain_is (step_take (by rfl) ?ysm37) ?rsm37
      case ysm37 =>
        intro w hbw hd
        clear hd
        go_simp
        first | done | with_reducible rfl
      (try simp only [Act.put, List.setIfInBounds_toArray, List.set_cons_zero, List.set_cons_succ, List.nil_append, List.cons_append])
      refine chain_is (step_take (by rfl) ?ysm38) ?rsm38
      case ysm38 =>
        intro w hbw hd
        clear hd
        go_simp
        first | done | with_reducible rfl
      (try simp only [Act.put, List.setIfInBounds_toArray, List.set_cons_zero, List.set_cons_succ, List.nil_append, List.cons_append])
      refine chain_is (step_take (by rfl) ?ysm39) ?rsm39
      case ysm39 =>
        intro w hbw hd
        clear hd
        go_simp
        first | done | with_reducible rfl
      (try simp only [Act.put, List.setIfInBounds_toArray, List.set_cons_zero, List.set_cons_succ, List.nil_append, List.cons_append])
      refine chain_is (step_take (by rfl) ?ysm40) ?rsm40
      case ysm40 =>
        intro w hbw hd
        clear hd
        go_simp
        first | done | with_reducible rfl
      (try simp only [Act.put, List.setIfInBounds_toArray, List.set_cons_zero, List.set_cons_succ, List.nil_append, List.cons_append])
      refine chain_is (step_take (by rfl) ?ysm41) ?rsm41
      case ysm41 =>
        intro w hbw hd
        clear hd
        go_simp
        first | done | with_reducible rfl
      (try simp only [Act.put, List.setIfInBounds_toArray, List.set_cons_zero, List.set_cons_succ, List.nil_append, List.cons_append])
      refine chain_is (step_take (by rfl) ?ysm42) ?rsm42
      case ysm42 =>
        intro w hbw hd
        clear hd
        exact exec_load_mid _ _ rfl b1 (o1 + k * 75 + 11) rfl _ _ (he1 w (hb0.trans (hbw.mono (by omega)))) Tryz.underlying39 rfl (sz64 p.he)
      (try simp only [Act.put, List.setIfInBounds_toArray, List.set_cons_zero, List.set_cons_succ, List.nil_append, List.cons_append])
      refine chain_is (step_take (by rfl) ?ysm43) ?rsm43
      case ysm43 =>
        intro w hbw hd
        clear hd
        go_simp
        first | done | with_reducible rfl
      (try simp only [Act.put, List.setIfInBounds_toArray, List.set_cons_zero, List.set_cons_succ, List.nil_append, List.cons_append])
      refine chain_is (step_take (by rfl) ?ysm44) ?rsm44
      case ysm44 =>
        intro w hbw hd
        clear hd
        go_simp
        first | done | with_reducible rfl
      (try simp only [Act.put, List.setIfInBounds_toArray, List.set_cons_zero, List.set_cons_succ, List.nil_append, List.cons_append])
      refine chain_is (step_take (by rfl) ?ysm45) ?rsm45
      case ysm45 =>
        intro w hbw hd
        clear hd
        go_simp
        first | done | with_reducible rfl
      (try simp only [Act.put, List.setIfInBounds_toArray, List.set_cons_zero, List.set_cons_succ, List.nil_append, List.cons_append])
      refine chain_is (step_take (by rfl) ?ysm46) ?rsm46
      case ysm46 =>
        intro w hbw hd
        clear hd
        go_simp
        first | done | with_reducible rfl
      (try simp only [Act.put, List.setIfInBounds_toArray, List.set_cons_zero, List.set_cons_succ, List.nil_append, List.cons_append])
      refine chain_is (step_take (by rfl) ?ysm47) ?rsm47
      case ysm47 =>
        intro w hbw hd
        clear hd
        exact exec_load_mid _ _ rfl b2 (o2 + k * 75 + 11) rfl _ _ (he2 w (hb0.trans (hbw.mono (by omega)))) Tryz.underlying39 rfl (sz64 p.he)
      (try simp only [Act.put, List.setIfInBounds_toArray, List.set_cons_zero, List.set_cons_succ, List.nil_append, List.cons_append])
      refine chain_is (step_take (by rfl) ?ysm48) ?rsm48
      case ysm48 =>
        intro w hbw hd
        have q : (Op.equalIn 10000 39 (.agg (wordsL p.es).toArray) (.agg (wordsL p.es).toArray)).run Tryz.prog w = .ok true w := eq_es w p.he
        clear hd
        go_simp
        first | done | with_reducible rfl
      (try simp only [Act.put, List.setIfInBounds_toArray, List.set_cons_zero, List.set_cons_succ, List.nil_append, List.cons_append])
      refine chain_is (step_take (by rfl) ?ysm49) ?rsm49
      case ysm49 =>
        intro w hbw hd
        clear hd
        go_simp
        first | done | with_reducible rfl
      (try simp only [Act.put, List.setIfInBounds_toArray, List.set_cons_zero, List.set_cons_succ, List.nil_append, List.cons_append])
      refine chain_is (step_take (by rfl) ?ysm50) ?rsm50
      case ysm50 =>
        intro w hbw hd
        clear hd
        go_simp
        first | done | with_reducible rfl
      (try simp only [Act.put, List.setIfInBounds_toArray, List.set_cons_zero, List.set_cons_succ, List.nil_append, List.cons_append])
      refine chain_is (step_take (by rfl) ?ysm51) ?rsm51
      case ysm51 =>
        intro w hbw hd
        clear hd
        go_simp
        first | done | with_reducible rfl
      (try simp only [Act.put, List.setIfInBounds_toArray, List.set_cons_zero, List.set_cons_succ, List.nil_append, List.cons_append])
      refine chain_is (step_take (by rfl) ?ysm52) ?rsm52
      case ysm52 =>
        intro w hbw hd
        clear hd
        go_simp
        first | done | with_reducible rfl
      (try simp only [Act.put, List.setIfInBounds_toArray, List.set_cons_zero, List.set_cons_succ, List.nil_append, List.cons_append])
      refine chain_is (step_take (by rfl) ?ysm53) ?rsm53
      case ysm53 =>
        intro w hbw hd
        clear hd
        go_simp
        first | done | with_reducible rfl
      (try simp only [Act.put, List.setIfInBounds_toArray, List.set_cons_zero, List.set_cons_succ, List.nil_append, List.cons_append])
      refine chain_is (step_take (by rfl) ?ysm54) ?rsm54
      case ysm54 =>
        intro w hbw hd
        clear hd
        go_simp
        first | done | with_reducible rfl
      (try simp only [Act.put, List.setIfInBounds_toArray, List.set_cons_zero, List.set_cons_succ, List.nil_append, List.cons_append])
      refine chain_is (step_take (by rfl) ?ysm55) ?rsm55
      case ysm55 =>
        intro w hbw hd
        have q := cell_keep hbw (cell_keep hb0 hg1 hb1) (by rw [hz0]; exact hb1)
        clear hd
        go_simp
        first | done | with_reducible rfl
      (try simp only [Act.put, List.setIfInBounds_toArray, List.set_cons_zero, List.set_cons_succ, List.nil_append, List.cons_append])
      refine chain_is (step_take (by rfl) ?ysm56) ?rsm56
      case ysm56 =>
        intro w hbw hd
        clear hd
        go_simp
        first | done | with_reducible rfl
      (try simp only [Act.put, List.setIfInBounds_toArray, List.set_cons_zero, List.set_cons_succ, List.nil_append, List.cons_append])
      refine chain_is (step_take (by rfl) ?ysm57) ?rsm57
      case ysm57 =>
        intro w hbw hd
        clear hd
        go_simp
        first | done | with_reducible rfl
      (try simp only [Act.put, List.setIfInBounds_toArray, List.set_cons_zero, List.set_cons_succ, List.nil_append, List.cons_append])
      refine chain_is (step_take (by rfl) ?ysm58) ?rsm58
      case ysm58 =>
        intro w hbw hd
        clear hd
        go_simp
        first | done | with_reducible rfl
      (try simp only [Act.put, List.setIfInBounds_toArray, List.set_cons_zero, List.set_cons_succ, List.nil_append, List.cons_append])
      refine chain_is (step_take (by rfl) ?ysm59) ?rsm59
      case ysm59 =>
        intro w hbw hd
        clear hd
        go_simp
        first | done | with_reducible rfl
      (try simp only [Act.put, List.setIfInBounds_toArray, List.set_cons_zero, List.set_cons_succ, List.nil_append, List.cons_append])
      refine chain_is (step_take (by rfl) ?ysm60) ?rsm60
      case ysm60 =>
        intro w hbw hd
        have q := cell_keep hbw (cell_keep hb0 hg2 hb2) (by rw [hz0]; exact hb2)
        clear hd
        go_simp
        first | done | with_reducible rfl
      (try simp only [Act.put, List.setIfInBounds_toArray, List.set_cons_zero, List.set_cons_succ, List.nil_append, List.cons_append])
      refine chain_is ?ssm61 ?rsm61
      case ssm61 =>
        intro w hbw hd K Q' hK
        clear hd
        go_simp
        (go_at_call 50; refine (hSR _ (hb0.trans (hbw.mono (by omega)))).mono ?_; rintro e w' ⟨rfl, hbe⟩)
        refine hK.out (.bool true) _ _ ?_ ?_ rfl
        · (simp only [Act.put, List.setIfInBounds_toArray, List.set_cons_zero, List.set_cons_succ, List.nil_append, List.cons_append])
        · exact (by repeat' (first | with_reducible exact Below.refl _ _ | with_reducible assumption | with_reducible apply Below.drew | with_reducible apply below_drewN | with_reducible apply Below.alloc | with_reducible apply Below.setCell | (with_reducible refine Below.trans ?_ (Below.mono (by assumption) ?_)) | (simp; done) | (simp; omega) | omega | with_reducible apply le_size_alloc | with_reducible apply le_size_drewN | with_reducible apply le_size_drew | with_reducible apply le_size_setCell | with_reducible refine Nat.le_trans ?_ (Below.size (by assumption))))
      (try simp only [Act.put, List.setIfInBounds_toArray, List.set_cons_zero, List.set_cons_succ, List.nil_append, List.cons_append])
      refine chain_is (step_take (by rfl) ?ysm62) ?rsm62
      case ysm62 =>
        intro w hbw hd
        clear hd
        go_simp
        first | done | with_reducible rfl
      (try simp only [Act.put, List.setIfInBounds_toArray, List.set_cons_zero, List.set_cons_succ, List.nil_append, List.cons_append])
      refine chain_is (step_take (by rfl) ?ysm63) ?rsm63
      case ysm63 =>
        intro w hbw hd
        clear hd
        go_simp
        first | done | with_reducible rfl
      (try simp only [Act.put, List.setIfInBounds_toArray, List.set_cons_zero, List.set_cons_succ, List.nil_append, List.cons_append])
      refine chain_end (fun wz hbz hd => ?_)
      have hbx : Below wq.heap.size wq wz := hb0.trans (hbz.mono (by omega))
      clear hd hbz hb0
      go_wp2
      go_roundw
      case rel => exact ⟨k + 1, by omega, by go_num, hbw.trans (hbx.mono zw)⟩
      case measure => simp [intOf]; omega
    · obtain rfl : k = l.length := by omega
      clear hlt
      go_wp2
      refine bodyPost_ret (v := .bool true) (by simp [results, Tryz.results22, go_sem]) rfl ?_
      exact ⟨rfl, hbw⟩
end Go.Proofs.YtmbpjafiinfkkaaGreatDoor
namespace Go.Proofs.YtmbpjafiinfkkaaGreatDoor
set_option linter.unusedSimpArgs false
set_option linter.unusedVariables false
open Go.RowKit Go.Maps
open Go.ChangeShapes Go.WideShapes Go.ChangeAt Go.Joins Go.Deep

section
variable {H : Type} {enc : TypeId × Value → H} {W : World}
theorem sr_of_each {α : Type} (E : Elt Tryz.prog α) {a' : Addr} {len : Nat} (d : α) (each : ∀ i, i < len → ∃ x : α, ∀ (j : Nat) u, (E.enc x)[j]? = some u → W.cell? (a'.add (i * E.sz + j)) = some u) (Q : α → Prop) (hQ : ∀ i, i < len → ∀ x, (∀ (j : Nat) u, (E.enc x)[j]? = some u → W.cell? (a'.add (i * E.sz + j)) = some u) → Q x) :
    ∃ l : List α, l.length = len ∧ SR E W (some a') l ∧ ∀ x ∈ l, Q x := by
  let X : Nat → α := fun i => if h : i < len then Classical.choose (each i h) else d
  have hX : ∀ i, i < len → ∀ (j : Nat) u, (E.enc (X i))[j]? = some u → W.cell? (a'.add (i * E.sz + j)) = some u := by
    intro i hi
    have : X i = Classical.choose (each i hi) := dif_pos hi
    rw [this]
    exact Classical.choose_spec (each i hi)
  refine ⟨(List.range len).map X, by simp, ?_, fun x hx => ?_⟩
  · rcases Nat.eq_zero_or_pos len with h0 | h0
    · subst h0
      exact SR.nil
    · obtain ⟨b, off, sp⟩ := a'
      have hpos := E.pos
      have hu0 : (E.enc (X 0))[0]? = some ((E.enc (X 0))[0]'(by rw [E.hlen]; exact hpos)) := List.getElem?_eq_getElem _
      have hc0 := hX 0 h0 0 _ hu0
      rw [Nat.zero_mul, Nat.zero_add] at hc0
      cases sp with
      | some s =>
        simp [Addr.add, World.cell?] at hc0
        split at hc0 <;> cases hc0
      | none =>
        have hadd : ∀ k, (⟨b, off, none⟩ : Addr).add k = ⟨b, off + k, none⟩ := fun k => by by_cases h : k = 0 <;> simp [Addr.add, h]
        rw [hadd] at hc0
        refine SR.of_at (fun _ => World.block_lt_of_cell? W _ hc0) (fun i x hi j u hu => ?_)
        obtain ⟨hi', rfl⟩ := List.getElem?_eq_some_iff.1 hi
        simp at hi'
        simp only [List.getElem_map, List.getElem_range] at hu
        have := hX i hi' j u hu
        rw [hadd] at this
        rw [Nat.add_assoc]
        exact this
  · obtain ⟨i, hi, rfl⟩ := List.mem_map.1 hx
    exact hQ i (List.mem_range.1 hi) _ (hX i (List.mem_range.1 hi))

theorem cell_of_take {cs : List Value} {o : Nat} {u : Value} {n : Nat} (hn : n = 1) (e : (cs.drop o).take n = [u]) : cs[o]? = some u := by
  have h3 : ((cs.drop o).take n)[0]? = some u := by rw [e]; rfl
  rw [hn, List.getElem?_take_of_lt (by omega), List.getElem?_drop, Nat.add_zero] at h3
  exact h3
set_option maxRecDepth 100000 in
theorem open_rngs {fuel : Nat} {cs : List Value} {x : DataW H × List MemPlace} (h : DataW.trod enc Tryz.prog W 0 (fun _ => true) true fuel 37 cs = some x) :
    ∃ A c rs, cs = [.slice A rs.length c] ∧ SR rngE W A rs := by
  have ce : (Tryz.prog).cellsOf 115 = 2 := by kernel_rfl
  have ci : (Tryz.prog).cellsOf 3 = 1 := by kernel_rfl
  rcases open_slice Tryz.underlying37 h with ⟨rfl, _⟩ | ⟨a', len', cap', m, n, D, Pl, rfl, _, hl, hm, hmm, _, hx⟩
  · exact ⟨none, 0, [], rfl, SR.nil⟩
  · simp only [if_true] at hmm
    subst hmm
    have each : ∀ i, i < len' → ∃ x : Int × Int, ∀ (j : Nat) u, (rngE.enc x)[j]? = some u → W.cell? (a'.add (i * 2 + j)) = some u := by
      intro i hi
      obtain ⟨cs', h1, h2⟩ := hx i (by omega)
      rw [ce] at h1
      obtain ⟨_, hlen, hcell⟩ := World.cells?_some h1
      obtain ⟨y0, y1, k, _, _, g0, g1⟩ := Go.ChangeShapes.trod_struct2 Tryz.underlying115 h2
      obtain ⟨a, e0, _, _⟩ := DataW.trod_int Tryz.underlying3 g0
      obtain ⟨b, e1, _, _⟩ := DataW.trod_int Tryz.underlying3 g1
      have q0 : cs'[0]? = some (.int .i64 a) := cell_of_take ci e0
      have q1 : cs'[1]? = some (.int .i64 b) := cell_of_take ci e1
      have hk : ∀ j, j < 2 → W.cell? (a'.add (i * 2 + j)) = cs'[j]? := fun j hj => by
        have := hcell j hj
        rwa [add_add] at this
      refine ⟨(a, b), fun j u hu => ?_⟩
      match j, hu with
      | 0, hu => rw [hk 0 (by omega), q0]; exact hu
      | 1, hu => rw [hk 1 (by omega), q1]; exact hu
      | j + 2, hu => exact absurd hu (by simp [rngE])
    obtain ⟨l, h1, h2, _⟩ := sr_of_each rngE (0, 0) each (fun _ => True) (fun _ _ _ _ => trivial)
    exact ⟨some a', _, l, by rw [h1], h2⟩

set_option maxRecDepth 100000 in
theorem open_procs {base : Nat} {v : Value} {d : DataW H} {p : List MemPlace} (hv : Value.okWide Tryz.prog W .any base 22 v) (h : DataW.Trod enc Tryz.prog W 0 (fun _ => true) true 22 v d p) :
    ∃ A c l, v = .slice A l.length c ∧ (SR procE W A l ∧ RgOk W l) ∧ l.length ≤ maxLen := by
  obtain ⟨a, len, cap, rfl⟩ := okWide_slice Tryz.underlying22 hv
  obtain ⟨fuel, hfu⟩ := h
  have ce : (Tryz.prog).cellsOf 41 = 75 := by kernel_rfl
  have ci : (Tryz.prog).cellsOf 3 = 1 := by kernel_rfl
  have cu : (Tryz.prog).cellsOf 38 = 1 := by kernel_rfl
  have c8 : (Tryz.prog).cellsOf 36 = 8 := by kernel_rfl
  have c64 : (Tryz.prog).cellsOf 39 = 64 := by kernel_rfl
  have cr : (Tryz.prog).cellsOf 37 = 1 := by kernel_rfl
  rcases open_slice Tryz.underlying22 hfu with ⟨hcs, _⟩ | ⟨a', len', cap', m, n, D, Pl, hcs, _, hl, hm, hmm, _, hx⟩
  · simp [Value.cells] at hcs
    obtain ⟨rfl, rfl, rfl⟩ := hcs
    exact ⟨none, 0, [], rfl, ⟨SR.nil, fun p hp => by cases hp⟩, by simp⟩
  · simp [Value.cells] at hcs
    obtain ⟨rfl, rfl, rfl⟩ := hcs
    simp only [if_true] at hmm
    subst hmm
    have both : ∀ i, i < len → ∃ x : PV, (∀ (j : Nat) u, (procE.enc x)[j]? = some u → W.cell? (a'.add (i * 75 + j)) = some u) ∧ ∃ rs, SR rngE W x.rA rs ∧ x.rN = rs.length := by
      intro i hi
      obtain ⟨cs', h1, h2⟩ := hx i (by omega)
      rw [ce] at h1
      obtain ⟨_, hlen, hcell⟩ := World.cells?_some h1
      have hk : ∀ j, j < 75 → W.cell? (a'.add (i * 75 + j)) = cs'[j]? := fun j hj => by
        have := hcell j hj
        rwa [add_add] at this
      obtain ⟨xs, k, _, _, _, hxl, hfl⟩ := DataW.trod_struct Tryz.underlying41 h2
      have hx5 : xs.length = 5 := hxl
      have get : ∀ j, j < 5 → ∃ y, xs[j]? = some y := fun j hj => ⟨_, List.getElem?_eq_getElem (by omega)⟩
      obtain ⟨y0, f0⟩ := get 0 (by decide)
      obtain ⟨y1, f1⟩ := get 1 (by decide)
      obtain ⟨y2, f2⟩ := get 2 (by decide)
      obtain ⟨y3, f3⟩ := get 3 (by decide)
      obtain ⟨y4, f4⟩ := get 4 (by decide)
      have g0 : DataW.trod enc Tryz.prog W 0 (fun _ => true) true k 3 ((cs'.drop 0).take ((Tryz.prog).cellsOf 3)) = some y0 := (hfl 0 _ rfl).trans f0
      have g1 : DataW.trod enc Tryz.prog W 0 (fun _ => true) true k 3 ((cs'.drop 1).take ((Tryz.prog).cellsOf 3)) = some y1 := (hfl 1 _ rfl).trans f1
      have g2 : DataW.trod enc Tryz.prog W 0 (fun _ => true) true k 36 ((cs'.drop 2).take ((Tryz.prog).cellsOf 36)) = some y2 := (hfl 2 _ rfl).trans f2
      have g3 : DataW.trod enc Tryz.prog W 0 (fun _ => true) true k 37 ((cs'.drop 10).take ((Tryz.prog).cellsOf 37)) = some y3 := (hfl 3 _ rfl).trans f3
      have g4 : DataW.trod enc Tryz.prog W 0 (fun _ => true) true k 39 ((cs'.drop 11).take ((Tryz.prog).cellsOf 39)) = some y4 := (hfl 4 _ rfl).trans f4
      rw [ci] at g0 g1
      rw [c8] at g2
      rw [cr] at g3
      rw [c64] at g4
      obtain ⟨st, e0, _, _⟩ := DataW.trod_int Tryz.underlying3 g0
      obtain ⟨root, e1, _, _⟩ := DataW.trod_int Tryz.underlying3 g1
      obtain ⟨A, c, rs, e3, hrs⟩ := open_rngs g3
      have q0 : cs'[0]? = some (.int .i64 st) := cell_of_take rfl e0
      have q1 : cs'[1]? = some (.int .i64 root) := cell_of_take rfl e1
      have q10 : cs'[10]? = some (.slice A rs.length c) := cell_of_take rfl e3
      obtain ⟨zs, m2, _, _, _, hz, hel⟩ := DataW.trod_array Tryz.underlying36 g2
      obtain ⟨us, m4, _, _, _, hu64, hel4⟩ := DataW.trod_array Tryz.underlying39 g4
      rw [ci] at hel
      rw [cu] at hel4
      have q2 : ∀ j, j < 8 → ∃ z : Int, cs'[2 + j]? = some (.int .i64 z) := fun j hj => by
        have h3 := hel j hj
        rw [List.getElem?_eq_getElem (by omega)] at h3
        obtain ⟨z, e, _, _⟩ := DataW.trod_int Tryz.underlying3 h3
        have h4 := cell_of_take rfl e
        rw [List.getElem?_take_of_lt (by omega), List.getElem?_drop, Nat.mul_one] at h4
        exact ⟨z, h4⟩
      have q4 : ∀ j, j < 64 → ∃ z : Nat, z < 18446744073709551616 ∧ cs'[11 + j]? = some (.int .u64 (z : Int)) := fun j hj => by
        have h3 := hel4 j hj
        rw [List.getElem?_eq_getElem (by omega)] at h3
        obtain ⟨z, e, _, wf⟩ := DataW.trod_int Tryz.underlying38 h3
        have h4 := cell_of_take rfl e
        rw [List.getElem?_take_of_lt (by omega), List.getElem?_drop, Nat.mul_one] at h4
        have hz : 0 ≤ z ∧ z < 18446744073709551616 := by
          have e2 : IntKind.u64.min = 0 := by decide
          have e3 : IntKind.u64.max = 18446744073709551615 := by decide
          simp [Lit.wf, e2, e3] at wf
          omega
        exact ⟨z.toNat, by omega, by rw [show ((z.toNat : Nat) : Int) = z by omega]; exact h4⟩
      let Z : Nat → Int := fun j => if h : j < 8 then Classical.choose (q2 j h) else 0
      have hZ : ∀ j, j < 8 → cs'[2 + j]? = some (.int .i64 (Z j)) := by
        intro j hj
        have : Z j = Classical.choose (q2 j hj) := dif_pos hj
        rw [this]
        exact Classical.choose_spec (q2 j hj)
      let U : Nat → Nat := fun j => if h : j < 64 then Classical.choose (q4 j h) else 0
      have hU : ∀ j, j < 64 → U j < 18446744073709551616 ∧ cs'[11 + j]? = some (.int .u64 (U j : Int)) := by
        intro j hj
        have : U j = Classical.choose (q4 j hj) := dif_pos hj
        rw [this]
        exact Classical.choose_spec (q4 j hj)
      refine ⟨⟨st, root, (List.range 8).map Z, A, rs.length, c, (List.range 64).map U, by simp, by simp, fun x hx => by
        obtain ⟨j, hj, rfl⟩ := List.mem_map.1 hx
        exact (hU j (List.mem_range.1 hj)).1⟩, fun j u hu => ?_, rs, hrs, rfl⟩
      have hj75 : j < 75 := by
        have := (List.getElem?_eq_some_iff.1 hu).1
        rwa [procE.hlen] at this
      rw [hk j hj75]
      rcases (by omega : j = 0 ∨ j = 1 ∨ (2 ≤ j ∧ j < 10) ∨ j = 10 ∨ 11 ≤ j) with h | h | h | h | h
      · subst h; rw [q0]; exact hu
      · subst h; rw [q1]; exact hu
      · obtain ⟨i2, rfl⟩ : ∃ i2, j = 2 + i2 := ⟨j - 2, by omega⟩
        rw [hZ i2 (by omega), ← hu]
        exact (pvC_leaf _ (show ((List.range 8).map Z)[i2]? = some (Z i2) by rw [List.getElem?_map, List.getElem?_range (by omega)]; rfl)).symm
      · subst h
        rw [q10]
        change (pvC _)[10]? = some u at hu
        rw [pvC_regs] at hu
        exact hu
      · obtain ⟨i2, rfl⟩ : ∃ i2, j = 11 + i2 := ⟨j - 11, by omega⟩
        rw [(hU i2 (by omega)).2, ← hu]
        exact (pvC_ent _ (show ((List.range 64).map U)[i2]? = some (U i2) by rw [List.getElem?_map, List.getElem?_range (by omega)]; rfl)).symm
    have pvd : PV := ⟨0, 0, List.replicate 8 0, none, 0, 0, List.replicate 64 0, by simp, by simp, fun x hx => by rw [List.eq_of_mem_replicate hx]; decide⟩
    let X : Nat → PV := fun i => if h : i < len then Classical.choose (both i h) else pvd
    have hX : ∀ i, i < len → (∀ (j : Nat) u, (procE.enc (X i))[j]? = some u → W.cell? (a'.add (i * 75 + j)) = some u) ∧ ∃ rs, SR rngE W (X i).rA rs ∧ (X i).rN = rs.length := by
      intro i hi
      have : X i = Classical.choose (both i hi) := dif_pos hi
      rw [this]
      exact Classical.choose_spec (both i hi)
    refine ⟨some a', m, (List.range len).map X, by simp, ⟨?_, fun p hp => ?_⟩, by simp; omega⟩
    · rcases Nat.eq_zero_or_pos len with h0 | h0
      · subst h0
        exact SR.nil
      · obtain ⟨b, off, sp⟩ := a'
        have hc0 := (hX 0 h0).1 0 _ rfl
        rw [Nat.zero_mul, Nat.zero_add] at hc0
        cases sp with
        | some s =>
          simp [Addr.add, World.cell?] at hc0
          split at hc0 <;> cases hc0
        | none =>
          have hadd : ∀ k, (⟨b, off, none⟩ : Addr).add k = ⟨b, off + k, none⟩ := fun k => by by_cases h : k = 0 <;> simp [Addr.add, h]
          rw [hadd] at hc0
          refine SR.of_at (fun _ => World.block_lt_of_cell? W _ hc0) (fun i x hi j u hu => ?_)
          obtain ⟨hi', rfl⟩ := List.getElem?_eq_some_iff.1 hi
          simp at hi'
          simp only [List.getElem_map, List.getElem_range] at hu
          have := (hX i hi').1 j u hu
          rw [hadd] at this
          rw [Nat.add_assoc]
          exact this
    · obtain ⟨i, hi, rfl⟩ := List.mem_map.1 hp
      exact (hX i (List.mem_range.1 hi)).2
end
end Go.Proofs.YtmbpjafiinfkkaaGreatDoor
namespace Go.Proofs.YtmbpjafiinfkkaaGreatDoor
set_option linter.unusedSimpArgs false
set_option linter.unusedVariables false
open Go.RowKit Go.Maps

theorem sameL_at {w : World} {l l' : List PV} (h : SameL w l l') (k : Nat) : (l'[k]?).map (fun p => (p.st, p.es)) = (l[k]?).map (fun p => (p.st, p.es)) := by
  rcases Nat.lt_or_ge k l.length with hk | hk
  · have h1 : l[k]? = some l[k] := List.getElem?_eq_getElem hk
    have h2 : l'[k]? = some (l'[k]'(by rw [h.1]; exact hk)) := List.getElem?_eq_getElem _
    obtain ⟨a, _, _, b, _⟩ := h.2 k _ _ h1 h2
    rw [h1, h2]
    simp only [Option.map_some, a, b]
  · rw [List.getElem?_eq_none hk, List.getElem?_eq_none (by rw [h.1]; exact hk)]
theorem sameL_map {β : Type} {w : World} {l l' : List PV} (h : SameL w l l') (f : List Nat → β) : l'.map (fun p => f p.es) = l.map (fun p => f p.es) := by
  apply List.ext_getElem?
  intro k
  have := sameL_at h k
  rw [List.getElem?_map, List.getElem?_map]
  cases h1 : l[k]? <;> cases h2 : l'[k]? <;> rw [h1, h2] at this <;> simp at this <;> simp [this]
theorem sameL_scr {w : World} {l l' : List PV} (h : SameL w l l') : scrE l' = scrE l ∧ scsL l' = scsL l := by
  unfold scrE scsE scsL
  rw [h.1, sameL_map h scoE, sameL_map h scoN]
  exact ⟨rfl, rfl⟩
theorem sameL_cand {w : World} {l l' : List PV} (h : SameL w l l') (sp : List Int) : candL l' sp = candL l sp := by
  unfold candL
  rw [h.1]
  congr 1
  funext k
  have := sameL_at h k
  unfold candAt
  cases h1 : l[k]? <;> cases h2 : l'[k]? <;> rw [h1, h2] at this <;> simp at this
  simp [this.1, this.2]
theorem sameL_rnk {w : World} {l l' : List PV} (h : SameL w l l') (sp : List Int) : rnkE l' sp = rnkE l sp ∧ rnkL l' sp = rnkL l sp ∧ vicE l' sp = vicE l sp ∧ vicI l' sp = vicI l sp := by
  have e1 : rnkE l' sp = rnkE l sp := by unfold rnkE; rw [(sameL_scr h).1, h.1]
  have e2 : rnkL l' sp = rnkL l sp := by unfold rnkL; rw [sameL_cand h]
  exact ⟨e1, e2, by unfold vicE; rw [e1, e2], by unfold vicI; rw [e1, e2]⟩
/-- The scores, or none with an error. -/
def scrX (l : List PV) : List Int := if scrE l = 0 then scsL l else []
def rnkX (l : List PV) (sp : List Int) : List Int := if rnkE l sp = 0 then rnkL l sp else []
theorem ScrPost.lst {l : List PV} {w w' : World} {e : Ending} (h : ScrPost l w e w') : (∃ A c, e = .returned (.tuple #[.slice A (scrX l).length c, .int .i64 (scrE l)]) ∧ Sl w' (.int .i64) A (scrX l)) ∧ Below w.heap.size w w' := by
  obtain ⟨⟨A, c, h1, h2⟩, h3⟩ := h
  refine ⟨⟨A, c, ?_, ?_⟩, h3⟩
  · rw [h1]
    unfold scrX
    split
    · simp [scsL]
    · rfl
  · unfold scrX
    split
    · rename_i h0; exact h2 h0
    · exact Sl.nil
theorem RnkPost.lst {l : List PV} {sp : List Int} {w w' : World} {e : Ending} (h : RnkPost l sp w e w') : (∃ A c, e = .returned (.tuple #[.slice A (rnkX l sp).length c, .int .i64 (rnkE l sp)]) ∧ Sl w' (.int .i64) A (rnkX l sp)) ∧ Below w.heap.size w w' := by
  obtain ⟨⟨A, c, h1, h2⟩, h3⟩ := h
  refine ⟨⟨A, c, ?_, ?_⟩, h3⟩
  · rw [h1]
    unfold rnkX
    split <;> rfl
  · unfold rnkX
    split
    · rename_i h0; exact h2 h0
    · exact Sl.nil
theorem scrX_len {l : List PV} (h : l.length ≤ 10) : (scrX l).length ≤ 10 := by
  unfold scrX
  split
  · simp [scsL]; exact h
  · simp
theorem rnkX_len {l : List PV} {sp : List Int} (h : l.length ≤ 10) : (rnkX l sp).length ≤ 10 := by
  unfold rnkX
  split
  · exact Nat.le_trans (rnkL_len l sp) h
  · simp
theorem large_no {l : List PV} {sp : List Int} (h : largeB l sp = false) : l.length ≤ 10 ∧ sp.length ≤ 20 ∧ ∀ p ∈ l, p.rN ≤ 70 := by
  unfold largeB at h
  simp only [Bool.or_eq_false_iff, decide_eq_false_iff_not] at h
  obtain ⟨⟨h1, h2⟩, h3⟩ := h
  refine ⟨by omega, by omega, fun p hp => ?_⟩
  rw [List.any_eq_false] at h1
  have := h1 p (by rw [List.take_of_length_le (by omega)]; exact hp)
  simp at this
  omega

set_option maxRecDepth 100000 in
set_option maxHeartbeats 1000000 in
theorem OwnInts_any (A : Option Addr) (c : Nat) (xs : List Int) (w : World) (ha : Sl w (.int .i64) A xs) (la : xs.length ≤ 1000) :
    Calls Tryz.prog 12 #[.slice A xs.length c] w fun e w' => (∃ B d, e = .returned (.slice B xs.length d) ∧ Sl w' (.int .i64) B xs) ∧ Below w.heap.size w w' := by
  have HA := Lib.hid (SR.of_sl ha)
  clear ha
  go_enter Tryz.func12, Tryz.ntmps12
  go_wp2_with (at_builtin; refine wpList_appR intE rfl (.tmp 3) (.tmp 4) _ rfl rfl _ w.heap.size (by simp) (some ⟨w.heap.size, 0, none⟩) 0 0 [] rfl (.inl ⟨rfl, SR.nil⟩) A c xs.length xs rfl (HA.out.ext (by repeat' (first | with_reducible exact Below.refl _ _ | with_reducible assumption | with_reducible apply Below.drew | with_reducible apply below_drewN | with_reducible apply Below.alloc | with_reducible apply Below.setCell | (with_reducible refine Below.trans ?_ (Below.mono (by assumption) ?_)) | (simp; done) | (simp; omega) | omega | with_reducible apply le_size_alloc | with_reducible apply le_size_drewN | with_reducible apply le_size_drew | with_reducible apply le_size_setCell | refine Nat.le_trans ?_ (Below.size (by assumption))))) (by simp; omega) rfl rfl ?_; intro A' c' w' hc1 hb1 _)
  refine bodyPost_ret (v := .slice A' xs.length c') (by simp [results, Tryz.results12, go_sem]) rfl ?_
  exact ⟨⟨A', ⟨c', rfl⟩, hc1.cr.1.sl⟩, (by repeat' (first | with_reducible exact Below.refl _ _ | with_reducible assumption | with_reducible apply Below.drew | with_reducible apply below_drewN | with_reducible apply Below.alloc | with_reducible apply Below.setCell | (with_reducible refine Below.trans ?_ (Below.mono (by assumption) ?_)) | (simp; done) | (simp; omega) | omega | with_reducible apply le_size_alloc | with_reducible apply le_size_drewN | with_reducible apply le_size_drew | with_reducible apply le_size_setCell | refine Nat.le_trans ?_ (Below.size (by assumption))))⟩
end Go.Proofs.YtmbpjafiinfkkaaGreatDoor
