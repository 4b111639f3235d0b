/- Contracts of headgateref07: Check, place, asks, Where. Written by gen_ref.py. -/
import Derived.Test.YtiobbdfkimpfbaaLruU
namespace Go.Proofs.Ytiobbdfkimpfbaa
set_option linter.unusedSimpArgs false
set_option linter.unusedVariables false
open Go.RowKit Go.Maps

/-- For each of n frames whether it was met. -/
def thereL (n : Nat) (seen : List Int) : List Bool := (List.range n).map (fun (k : Nat) => decide ((k : Int) ∈ seen))
theorem thereL_len (n : Nat) (seen : List Int) : (thereL n seen).length = n := by simp [thereL]
theorem thereL_at {n : Nat} {seen : List Int} {k : Nat} (h : k < n) : (thereL n seen)[k]? = some (decide ((k : Int) ∈ seen)) := by
  simp [thereL, List.getElem?_map, List.getElem?_range h]
theorem thereL_set {n : Nat} {seen : List Int} {x : Int} (h0 : 0 ≤ x) (_h1 : x < n) : (thereL n seen).set x.toNat true = thereL n (seen ++ [x]) := by
  apply List.ext_getElem?
  intro k
  rw [List.getElem?_set, thereL_len]
  by_cases hk : k < n
  · rw [thereL_at hk, thereL_at hk]
    by_cases e : x.toNat = k
    · rw [if_pos e, if_pos (by omega)]
      have : (k : Int) = x := by omega
      simp [this]
    · rw [if_neg e]
      have : (k : Int) ≠ x := by omega
      simp [this]
  · have e1 : (thereL n seen)[k]? = none := List.getElem?_eq_none (by rw [thereL_len]; omega)
    have e2 : (thereL n (seen ++ [x]))[k]? = none := List.getElem?_eq_none (by rw [thereL_len]; omega)
    rw [e1, e2]
    split
    · rw [if_neg (by omega)]
    · rfl

/-- Where headgateref07.Check stands. -/
structure CS (wr w : World) (Aa Ai Ar : Option Addr) (ca ci cr : Nat) (xs ys : List Int) (rs : List Bool) (seen : List Int) : Prop where
  there : Blk wr (w.heap.size + 1) 4 ((thereL rs.length seen).map Value.bool).toArray
  box : Blk wr w.heap.size 25 #[.slice Aa xs.length ca, .slice Ai ys.length ci, .slice Ar rs.length cr]
  lit : Blk wr (w.heap.size + 2) 22 #[.slice Aa xs.length ca, .slice Ai ys.length ci]
  bel : Below w.heap.size w wr
  scan : lruScan rs.length [] seen = none
theorem CS.cell_ {wr w : World} {Aa Ai Ar : Option Addr} {ca ci cr : Nat} {xs ys : List Int} {rs : List Bool} {seen : List Int} (h : CS wr w Aa Ai Ar ca ci cr xs ys rs seen) {x : Int} (h0 : 0 ≤ x) (h1 : x < rs.length) :
    wr.cell? ⟨w.heap.size + 1, x.toNat, none⟩ = some (.bool (decide (x ∈ seen))) := by
  rw [h.there.cell_]
  have := thereL_at (n := rs.length) (seen := seen) (k := x.toNat) (by omega)
  rw [show ((x.toNat : Nat) : Int) = x by omega] at this
  simp [this]
theorem CS.store {wr w : World} {Aa Ai Ar : Option Addr} {ca ci cr : Nat} {xs ys : List Int} {rs : List Bool} {seen : List Int} (h : CS wr w Aa Ai Ar ca ci cr xs ys rs seen) {x : Int} (h0 : 0 ≤ x) (h1 : x < rs.length) (hn : x ∉ seen) :
    CS (wr.setCell ⟨w.heap.size + 1, x.toNat, none⟩ (.bool true)) w Aa Ai Ar ca ci cr xs ys rs (seen ++ [x]) := by
  refine ⟨?_, h.box.far_ (by simp) _, h.lit.far_ (by simp) _, h.bel.setCell (by simp) _, lruScan_on _ _ _ h.scan ⟨h0, h1⟩ hn⟩
  have := h.there.set_ x.toNat (.bool true)
  rw [← thereL_set h0 h1, List.map_set]
  simpa using this

set_option maxRecDepth 100000 in
set_option maxHeartbeats 2000000 in
theorem RCheck_any (Aa Ai Ar : Option Addr) (ca ci cr : Nat) (xs ys : List Int) (rs : List Bool) (w : World) (hm : InMem w Aa Ai Ar xs ys rs) :
    Calls Try.prog 69 #[.agg #[.slice Aa xs.length ca, .slice Ai ys.length ci, .slice Ar rs.length cr]] w fun e w' =>
      e = .returned (.int .i64 (lruChk xs ys rs)) ∧ Below w.heap.size w w' := by
  have hla := hm.la; have hli := hm.li; have hlr := hm.lr
  have HA := Lib.hid hm.a; have HI := Lib.hid hm.i; have HR := Lib.hid hm.r; have HWA := Lib.hid hm.wa; have HWI := Lib.hid hm.wi
  clear hm
  by_cases hs1 : rs.length < 1
  · go_enter Try.func69, Try.ntmps69
    go_wp2
    go_ret
    exact ⟨ret_int (lruChk_size (.inl hs1)).symm, (by repeat' (first | with_reducible exact Below.refl _ _ | with_reducible assumption | with_reducible apply Below.drew | with_reducible apply below_drewN | with_reducible apply Below.alloc | with_reducible apply Below.setCell | (with_reducible refine Below.trans ?_ (Below.mono (by assumption) ?_)) | (simp; done) | (simp; omega) | omega | with_reducible apply le_size_alloc | with_reducible apply le_size_drewN | with_reducible apply le_size_drew | with_reducible apply le_size_setCell | refine Nat.le_trans ?_ (Below.size (by assumption))))⟩
  by_cases hs2 : 256 < rs.length
  · go_enter Try.func69, Try.ntmps69
    go_wp2
    go_ret
    exact ⟨ret_int (lruChk_size (.inr hs2)).symm, (by repeat' (first | with_reducible exact Below.refl _ _ | with_reducible assumption | with_reducible apply Below.drew | with_reducible apply below_drewN | with_reducible apply Below.alloc | with_reducible apply Below.setCell | (with_reducible refine Below.trans ?_ (Below.mono (by assumption) ?_)) | (simp; done) | (simp; omega) | omega | with_reducible apply le_size_alloc | with_reducible apply le_size_drewN | with_reducible apply le_size_drew | with_reducible apply le_size_setCell | refine Nat.le_trans ?_ (Below.size (by assumption))))⟩
  have hsz : ¬ (rs.length < 1 ∨ 256 < rs.length) := by omega
  have HSZ := Lib.hid hsz
  clear hsz
  have hd1 : decide ((rs.length : Int) < 1) = false := by simp; omega
  have hd2 : decide ((256 : Int) < rs.length) = false := by simp; omega
  obtain ⟨j0, hj0, hy0, hy1, hy2⟩ := info_parts boolInfo
  have hmk := fun (W : World) => run_make (P := Try.prog) W 23 4 j0 (.bool false) Try.underlying23 hj0 hy0 .i64 .i64 rs.length rs.length (by omega) (by omega) (by rw [hy2]; omega) (by omega)
  have hmc : madeCells #[.bool false] rs.length = ((thereL rs.length []).map Value.bool).toArray := by
    apply Array.ext'
    rw [toList_madeCells_one]
    apply List.ext_getElem?
    intro k
    by_cases hk : k < rs.length
    · rw [List.getElem?_map, thereL_at hk, List.getElem?_replicate, if_pos hk]; simp
    · rw [List.getElem?_replicate, if_neg hk, List.getElem?_eq_none (by simp [thereL_len]; omega)]
  have HMC := Lib.hid hmc
  clear hmc
  go_enter Try.func69, Try.ntmps69
  go_wp2
  refine wp_loop_rounds 3 ?_
  rw [rounds_succ]
  have hc0 : CS (((w.alloc (.cells #[.slice Aa xs.length ca, .slice Ai ys.length ci, .slice Ar rs.length cr] 25)).alloc (.cells (madeCells #[.bool false] rs.length) 4)).alloc (.cells #[.slice Aa xs.length ca, .slice Ai ys.length ci] 22)) w Aa Ai Ar ca ci cr xs ys rs [] := by
    refine ⟨?_, (by repeat' (first | with_reducible assumption | (with_reducible refine Blk.new_ ?_ ?_ <;> first | (simp; done) | rfl) | with_reducible apply Blk.drew_ | with_reducible apply Blk.drewN_ | with_reducible apply Blk.alloc_ | with_reducible refine Blk.far_ ?_ ?_ _ | (with_reducible refine Blk.below_ ?_ (by assumption) ?_) | (simp; done) | (simp; omega) | omega | with_reducible apply le_size_alloc | with_reducible apply lt_size_alloc | with_reducible apply le_size_drewN | with_reducible apply le_size_drew | with_reducible apply le_size_setCell | refine Nat.lt_of_lt_of_le ?_ (Below.size (by assumption)) | refine Nat.le_trans ?_ (Below.size (by assumption)))), Blk.new_ (by simp) rfl, (by repeat' (first | with_reducible exact Below.refl _ _ | with_reducible assumption | with_reducible apply Below.drew | with_reducible apply below_drewN | with_reducible apply Below.alloc | with_reducible apply Below.setCell | (with_reducible refine Below.trans ?_ (Below.mono (by assumption) ?_)) | (simp; done) | (simp; omega) | omega | with_reducible apply le_size_alloc | with_reducible apply le_size_drewN | with_reducible apply le_size_drew | with_reducible apply le_size_setCell | refine Nat.le_trans ?_ (Below.size (by assumption)))), rfl⟩
    exact (Blk.new_ (by simp) HMC.out).alloc_ _
  have HC0 := Lib.hid hc0
  clear hc0
  go_wp2_with fail
  go_loopw [6] (fun i wr => ∃ k : Nat, k ≤ xs.length ∧ i = .int .i64 k ∧ CS wr w Aa Ai Ar ca ci cr xs ys rs (([] : List Int) ++ xs.take k)) (fun i _ => xs.length - (intOf i).toNat)
  case atStart => exact ⟨0, by omega, rfl, by simpa using HC0.out⟩
  case round =>
    obtain ⟨k, hk, rfl, cs⟩ := hrel
    have hbw := cs.bel
    by_cases hlt : k < xs.length
    · obtain ⟨b, off, x, rfl, hbl, hx, hc⟩ := (HA.out.ext hbw).at_ hlt
      have HX := Lib.hid hx
      have hwx := HWA.out x (List.mem_of_getElem? hx)
      clear hx
      have HSC := Lib.hid cs.scan
      have hz : w.heap.size + 1 < wr.heap.size := cs.there.lt
      by_cases h1 : x < 0
      · have HB := Lib.hid hbw
        clear cs
        go_wp2
        go_ret
        refine ⟨ret_int (lruChk_scan HSZ.out ?_).symm, HB.out⟩
        have e := lruScan_far rs.length _ x (xs.drop (k + 1) ++ ys) HSC.out (by omega)
        rw [List.append_assoc, ← List.cons_append, ← List.append_assoc (xs.take k), ← split_at' HX.out, List.nil_append] at e
        exact e
      by_cases h2 : (rs.length : Int) ≤ x
      · have HB := Lib.hid hbw
        clear cs
        have d1 : decide (x < 0) = false := by simp; omega
        go_wp2
        go_ret
        refine ⟨ret_int (lruChk_scan HSZ.out ?_).symm, HB.out⟩
        have e := lruScan_far rs.length _ x (xs.drop (k + 1) ++ ys) HSC.out (by omega)
        rw [List.append_assoc, ← List.cons_append, ← List.append_assoc (xs.take k), ← split_at' HX.out, List.nil_append] at e
        exact e
      have d1 : decide (x < 0) = false := by simp; omega
      have d2 : decide ((rs.length : Int) ≤ x) = false := by simp; omega
      have x0 : 0 ≤ x := by omega
      have x1 : x < rs.length := by omega
      have hct : wr.cell? ⟨w.heap.size + 1, x.toNat, none⟩ = some (.bool (decide (x ∈ ([] : List Int) ++ xs.take k))) := cs.cell_ x0 x1
      have hft := cs.there.frozen_ x.toNat
      by_cases hm : x ∈ ([] : List Int) ++ xs.take k
      · rw [decide_eq_true hm] at hct
        have HM := Lib.hid hm
        have HB := Lib.hid hbw
        clear hm cs
        go_wp2
        go_ret
        refine ⟨ret_int (lruChk_scan HSZ.out ?_).symm, HB.out⟩
        have e := lruScan_met rs.length _ x (xs.drop (k + 1) ++ ys) HSC.out (by omega) HM.out
        rw [List.append_assoc, ← List.cons_append, ← List.append_assoc (xs.take k), ← split_at' HX.out, List.nil_append] at e
        exact e
      · rw [decide_eq_false hm] at hct
        have hcs := cs.store x0 x1 hm
        have HCS := Lib.hid hcs
        clear hm cs hcs
        go_wp2
        go_roundw
        case rel => exact ⟨k + 1, by omega, by go_num, by rw [take_snoc' HX.out, ← List.append_assoc]; exact HCS.out⟩
        case measure => simp [intOf]; omega
    · obtain rfl : k = xs.length := by omega
      rw [List.take_length] at cs
      have HCS := Lib.hid cs
      clear cs
      go_wp2_with fail
      rw [rounds_succ]
      rw [List.nil_append] at HCS
      have hlit := (HCS.out.lit.cell_ 1).trans (by simp : _ = some (.slice Ai ys.length ci))
      have hz3 : w.heap.size + 2 < wr.heap.size := HCS.out.lit.lt
      go_wp2_with fail
      go_loopw [6] (fun i wr => ∃ k : Nat, k ≤ ys.length ∧ i = .int .i64 k ∧ CS wr w Aa Ai Ar ca ci cr xs ys rs (xs ++ ys.take k)) (fun i _ => ys.length - (intOf i).toNat)
      case atStart => exact ⟨0, by omega, rfl, by simpa using HCS.out⟩
      case round =>
        obtain ⟨k, hk, rfl, cs⟩ := hrel
        have hbw := cs.bel
        by_cases hlt : k < ys.length
        · obtain ⟨b, off, x, rfl, hbl, hx, hc⟩ := (HI.out.ext hbw).at_ hlt
          have HX := Lib.hid hx
          have hwx := HWI.out x (List.mem_of_getElem? hx)
          clear hx
          have HSC := Lib.hid cs.scan
          have hz : w.heap.size + 1 < wr.heap.size := cs.there.lt
          by_cases h1 : x < 0
          · have HB := Lib.hid hbw
            clear cs
            go_wp2
            go_ret
            refine ⟨ret_int (lruChk_scan HSZ.out ?_).symm, HB.out⟩
            have e := lruScan_far rs.length _ x (ys.drop (k + 1)) HSC.out (by omega)
            rw [List.append_assoc, ← split_at' HX.out] at e
            exact e
          by_cases h2 : (rs.length : Int) ≤ x
          · have HB := Lib.hid hbw
            clear cs
            have d1 : decide (x < 0) = false := by simp; omega
            go_wp2
            go_ret
            refine ⟨ret_int (lruChk_scan HSZ.out ?_).symm, HB.out⟩
            have e := lruScan_far rs.length _ x (ys.drop (k + 1)) HSC.out (by omega)
            rw [List.append_assoc, ← split_at' HX.out] at e
            exact e
          have d1 : decide (x < 0) = false := by simp; omega
          have d2 : decide ((rs.length : Int) ≤ x) = false := by simp; omega
          have x0 : 0 ≤ x := by omega
          have x1 : x < rs.length := by omega
          have hct : wr.cell? ⟨w.heap.size + 1, x.toNat, none⟩ = some (.bool (decide (x ∈ xs ++ ys.take k))) := cs.cell_ x0 x1
          have hft := cs.there.frozen_ x.toNat
          by_cases hm : x ∈ xs ++ ys.take k
          · rw [decide_eq_true hm] at hct
            have HM := Lib.hid hm
            have HB := Lib.hid hbw
            clear hm cs
            go_wp2
            go_ret
            refine ⟨ret_int (lruChk_scan HSZ.out ?_).symm, HB.out⟩
            have e := lruScan_met rs.length _ x (ys.drop (k + 1)) HSC.out (by omega) HM.out
            rw [List.append_assoc, ← split_at' HX.out] at e
            exact e
          · rw [decide_eq_false hm] at hct
            have hcs := cs.store x0 x1 hm
            have HCS := Lib.hid hcs
            clear hm cs hcs
            go_wp2
            go_roundw
            case rel => exact ⟨k + 1, by omega, by go_num, by rw [take_snoc' HX.out, ← List.append_assoc]; exact HCS.out⟩
            case measure => simp [intOf]; omega
        · obtain rfl : k = ys.length := by omega
          rw [List.take_length] at cs
          have HCS := Lib.hid cs
          clear cs
          go_wp2_with fail
          rw [rounds_succ]
          go_wp2_with fail
          go_loopw [8] (fun i wr => ∃ k : Nat, k ≤ rs.length ∧ i = .int .i64 k ∧ CS wr w Aa Ai Ar ca ci cr xs ys rs (xs ++ ys) ∧ Hid (∀ m : Nat, m < k → rs[m]? = some true → (m : Int) ∈ xs ++ ys)) (fun i _ => rs.length - (intOf i).toNat)
          case atStart => exact ⟨0, by omega, rfl, HCS.out, fun m hm => absurd hm (by omega)⟩
          case round =>
            obtain ⟨k, hk, rfl, cs, HK⟩ := hrel
            have hbw := cs.bel
            have hl2 := (cs.box.cell_ 2).trans (by simp : _ = some (.slice Ar rs.length cr))
            have HSC := Lib.hid cs.scan
            have hz : w.heap.size + 1 < wr.heap.size := cs.there.lt
            by_cases hlt : k < rs.length
            · obtain ⟨b, off, x, rfl, hbl, hx, hc⟩ := (HR.out.ext hbw).at_ hlt
              have HX := Lib.hid hx
              clear hx
              have hct := cs.cell_ (x := (k : Int)) (by omega) (by omega)
              rw [Int.toNat_natCast] at hct
              have HCS := Lib.hid cs
              have i1 : (k : Int) < rs.length := by omega
              cases x with
              | false =>
                clear cs
                go_wp2
                go_roundw
                case rel =>
                  refine ⟨k + 1, by omega, by go_num, HCS.out, fun m hm he => ?_⟩
                  rcases (by omega : m < k ∨ m = k) with h | rfl
                  · exact HK.out m h he
                  · have := HX.out.symm.trans he; injection this with this; cases this
                case measure => simp [intOf]; omega
              | true =>
                by_cases hm : (k : Int) ∈ xs ++ ys
                · rw [decide_eq_true hm] at hct
                  have HM := Lib.hid hm
                  clear cs hm
                  go_wp2
                  go_roundw
                  case rel =>
                    refine ⟨k + 1, by omega, by go_num, HCS.out, fun m hm he => ?_⟩
                    rcases (by omega : m < k ∨ m = k) with h | rfl
                    · exact HK.out m h he
                    · exact HM.out
                  case measure => simp [intOf]; omega
                · rw [decide_eq_false hm] at hct
                  have HM := Lib.hid hm
                  clear cs hm
                  go_wp2
                  go_ret
                  exact ⟨ret_int (lruChk_state HSZ.out HSC.out HX.out HM.out).symm, HCS.out.bel⟩
            · have HCS := Lib.hid cs
              clear cs
              go_wp2
              go_ret
              exact ⟨ret_int (lruChk_ok HSZ.out HSC.out (fun m hm => HK.out m (by have := (List.getElem?_eq_some_iff.1 hm).1; omega) hm)).symm, HCS.out.bel⟩

set_option maxHeartbeats 400000 in
theorem place_any (A : Option Addr) (c : Nat) (xs : List Int) (x : Int) (w : World) (h : Sl w (.int .i64) A xs) (hn : xs.length ≤ 100000) :
    Calls Try.prog 86 #[.slice A xs.length c, .int .i64 x] w fun e w' => e = .returned (.int .i64 (ixOf xs x)) ∧ w = w' := by
  have H := Lib.hid h
  clear h
  go_enter Try.func86, Try.ntmps86
  go_wp2
  go_loop [5] (fun i => ∃ k : Nat, k ≤ xs.length ∧ i = .int .i64 k ∧ Hid (∀ m : Nat, m < k → xs[m]? ≠ some x)) (fun i => xs.length - (intOf i).toNat)
  case atStart => exact ⟨0, by omega, rfl, fun m hm => absurd hm (by omega)⟩
  case round =>
    obtain ⟨k, hk, rfl, HK⟩ := hrel
    by_cases hlt : k < xs.length
    · obtain ⟨b, off, y, rfl, hbl, hx, hc⟩ := H.out.at_ hlt
      have HX := Lib.hid hx
      clear hx
      by_cases e : y = x
      · subst e
        go_wp2
        go_ret
        exact ⟨ret_int (ixOf_at HX.out HK.out).symm, rfl⟩
      · have he : (y == x) = false := by simpa using e
        have HE := Lib.hid e
        clear e
        go_wp2
        go_round
        case rel =>
          refine ⟨k + 1, by omega, by go_num, fun m hm hm' => ?_⟩
          rcases (by omega : m < k ∨ m = k) with h | rfl
          · exact HK.out m h hm'
          · have := HX.out.symm.trans hm'; injection this with this; exact HE.out this
        case measure => simp [intOf]; omega
    · go_wp2
      go_ret
      exact ⟨ret_int (ixOf_no (fun m hm => HK.out m (by omega))).symm, rfl⟩

set_option maxHeartbeats 400000 in
theorem asks_any (Aa Ai Ar : Option Addr) (ca ci cr : Nat) (xs ys : List Int) (rs : List Bool) (f : Int) (w : World) (hm : InMem w Aa Ai Ar xs ys rs) :
    Calls Try.prog 85 #[.agg #[.slice Aa xs.length ca, .slice Ai ys.length ci, .slice Ar rs.length cr], .int .i64 f] w fun e w' => e = .returned (.int .i64 (lruChd xs ys rs f)) ∧ Below w.heap.size w w' := by
  have HM := Lib.hid hm
  have hlr := hm.lr
  clear hm
  generalize hc : lruChk xs ys rs = c
  have HC := Lib.hid hc
  by_cases h0 : c ≠ 0
  · have hr : Hid (lruChd xs ys rs f = c) := by show _ = _; rw [lruChd, hc, if_pos h0]
    have hne : (c == 0) = false := by simpa using h0
    clear hc h0
    go_enter Try.func85, Try.ntmps85
    go_wp2_with fail
    refine (RCheck_any _ _ _ _ _ _ _ _ _ _ (HM.out.ext (by repeat' (first | with_reducible exact Below.refl _ _ | with_reducible assumption | with_reducible apply Below.drew | with_reducible apply below_drewN | with_reducible apply Below.alloc | with_reducible apply Below.setCell | (with_reducible refine Below.trans ?_ (Below.mono (by assumption) ?_)) | (simp; done) | (simp; omega) | omega | with_reducible apply le_size_alloc | with_reducible apply le_size_drewN | with_reducible apply le_size_drew | with_reducible apply le_size_setCell | refine Nat.le_trans ?_ (Below.size (by assumption)))))).mono ?_
    rw [HC.out]
    rintro e w1 ⟨rfl, hb1⟩
    go_wp2
    go_ret
    exact ⟨ret_int hr.out.symm, (by repeat' (first | with_reducible exact Below.refl _ _ | with_reducible assumption | with_reducible apply Below.drew | with_reducible apply below_drewN | with_reducible apply Below.alloc | with_reducible apply Below.setCell | (with_reducible refine Below.trans ?_ (Below.mono (by assumption) ?_)) | (simp; done) | (simp; omega) | omega | with_reducible apply le_size_alloc | with_reducible apply le_size_drewN | with_reducible apply le_size_drew | with_reducible apply le_size_setCell | refine Nat.le_trans ?_ (Below.size (by assumption))))⟩
  · obtain rfl : c = 0 := by omega
    have e1 : ∀ b : Bool, decide (0 ≤ f ∧ f < (rs.length : Int)) = b → Hid (lruChd xs ys rs f = if b then 0 else 2) := by
      rintro b rfl
      show _ = _
      rw [lruChd, hc, if_neg (by simp)]
      simp
    clear hc h0
    by_cases h1 : f < 0
    · have hr := e1 false (by simp; omega)
      clear e1
      go_enter Try.func85, Try.ntmps85
      go_wp2_with fail
      refine (RCheck_any _ _ _ _ _ _ _ _ _ _ (HM.out.ext (by repeat' (first | with_reducible exact Below.refl _ _ | with_reducible assumption | with_reducible apply Below.drew | with_reducible apply below_drewN | with_reducible apply Below.alloc | with_reducible apply Below.setCell | (with_reducible refine Below.trans ?_ (Below.mono (by assumption) ?_)) | (simp; done) | (simp; omega) | omega | with_reducible apply le_size_alloc | with_reducible apply le_size_drewN | with_reducible apply le_size_drew | with_reducible apply le_size_setCell | refine Nat.le_trans ?_ (Below.size (by assumption)))))).mono ?_
      rw [HC.out]
      rintro e w1 ⟨rfl, hb1⟩
      go_wp2
      go_ret
      exact ⟨ret_int hr.out.symm, (by repeat' (first | with_reducible exact Below.refl _ _ | with_reducible assumption | with_reducible apply Below.drew | with_reducible apply below_drewN | with_reducible apply Below.alloc | with_reducible apply Below.setCell | (with_reducible refine Below.trans ?_ (Below.mono (by assumption) ?_)) | (simp; done) | (simp; omega) | omega | with_reducible apply le_size_alloc | with_reducible apply le_size_drewN | with_reducible apply le_size_drew | with_reducible apply le_size_setCell | refine Nat.le_trans ?_ (Below.size (by assumption))))⟩
    · have d1 : decide (f < 0) = false := by simp; omega
      by_cases h2 : (rs.length : Int) ≤ f
      · have hr := e1 false (by simp; omega)
        clear e1
        go_enter Try.func85, Try.ntmps85
        go_wp2_with fail
        refine (RCheck_any _ _ _ _ _ _ _ _ _ _ (HM.out.ext (by repeat' (first | with_reducible exact Below.refl _ _ | with_reducible assumption | with_reducible apply Below.drew | with_reducible apply below_drewN | with_reducible apply Below.alloc | with_reducible apply Below.setCell | (with_reducible refine Below.trans ?_ (Below.mono (by assumption) ?_)) | (simp; done) | (simp; omega) | omega | with_reducible apply le_size_alloc | with_reducible apply le_size_drewN | with_reducible apply le_size_drew | with_reducible apply le_size_setCell | refine Nat.le_trans ?_ (Below.size (by assumption)))))).mono ?_
        rw [HC.out]
        rintro e w1 ⟨rfl, hb1⟩
        have q2 : w1.cell? ⟨w.heap.size, 2, none⟩ = some (.slice Ar rs.length cr) := cell_keep hb1 (by simp) (by simp)
        go_wp2
        go_ret
        exact ⟨ret_int hr.out.symm, (by repeat' (first | with_reducible exact Below.refl _ _ | with_reducible assumption | with_reducible apply Below.drew | with_reducible apply below_drewN | with_reducible apply Below.alloc | with_reducible apply Below.setCell | (with_reducible refine Below.trans ?_ (Below.mono (by assumption) ?_)) | (simp; done) | (simp; omega) | omega | with_reducible apply le_size_alloc | with_reducible apply le_size_drewN | with_reducible apply le_size_drew | with_reducible apply le_size_setCell | refine Nat.le_trans ?_ (Below.size (by assumption))))⟩
      · have d2 : decide ((rs.length : Int) ≤ f) = false := by simp; omega
        have hr := e1 true (by simp; omega)
        clear e1
        go_enter Try.func85, Try.ntmps85
        go_wp2_with fail
        refine (RCheck_any _ _ _ _ _ _ _ _ _ _ (HM.out.ext (by repeat' (first | with_reducible exact Below.refl _ _ | with_reducible assumption | with_reducible apply Below.drew | with_reducible apply below_drewN | with_reducible apply Below.alloc | with_reducible apply Below.setCell | (with_reducible refine Below.trans ?_ (Below.mono (by assumption) ?_)) | (simp; done) | (simp; omega) | omega | with_reducible apply le_size_alloc | with_reducible apply le_size_drewN | with_reducible apply le_size_drew | with_reducible apply le_size_setCell | refine Nat.le_trans ?_ (Below.size (by assumption)))))).mono ?_
        rw [HC.out]
        rintro e w1 ⟨rfl, hb1⟩
        have q2 : w1.cell? ⟨w.heap.size, 2, none⟩ = some (.slice Ar rs.length cr) := cell_keep hb1 (by simp) (by simp)
        go_wp2
        go_ret
        exact ⟨ret_int hr.out.symm, (by repeat' (first | with_reducible exact Below.refl _ _ | with_reducible assumption | with_reducible apply Below.drew | with_reducible apply below_drewN | with_reducible apply Below.alloc | with_reducible apply Below.setCell | (with_reducible refine Below.trans ?_ (Below.mono (by assumption) ?_)) | (simp; done) | (simp; omega) | omega | with_reducible apply le_size_alloc | with_reducible apply le_size_drewN | with_reducible apply le_size_drew | with_reducible apply le_size_setCell | refine Nat.le_trans ?_ (Below.size (by assumption))))⟩

set_option maxHeartbeats 800000 in
theorem RWhere_S (Aa Ai Ar : Option Addr) (ca ci cr : Nat) (xs ys : List Int) (rs : List Bool) (f : Int) (w : World) (hm : InMem w Aa Ai Ar xs ys rs) :
    Calls Try.prog 72 #[.agg #[.slice Aa xs.length ca, .slice Ai ys.length ci, .slice Ar rs.length cr], .int .i64 f] w fun e w' =>
      e = .returned (.tuple #[.int .i64 (if lruChd xs ys rs f ≠ 0 then 0 else fWhere xs ys f), .int .i64 (lruChd xs ys rs f)]) ∧ Below w.heap.size w w' := by
  have HM := Lib.hid hm
  clear hm
  generalize hc : lruChd xs ys rs f = c
  have HC := Lib.hid hc
  by_cases h0 : c ≠ 0
  · rw [if_pos h0]
    have hne : (c != 0) = true := by simpa using h0
    clear hc h0
    go_enter Try.func72, Try.ntmps72
    go_wp2_with fail
    refine (asks_any _ _ _ _ _ _ _ _ _ _ _ (HM.out.ext (by repeat' (first | with_reducible exact Below.refl _ _ | with_reducible assumption | with_reducible apply Below.drew | with_reducible apply below_drewN | with_reducible apply Below.alloc | with_reducible apply Below.setCell | (with_reducible refine Below.trans ?_ (Below.mono (by assumption) ?_)) | (simp; done) | (simp; omega) | omega | with_reducible apply le_size_alloc | with_reducible apply le_size_drewN | with_reducible apply le_size_drew | with_reducible apply le_size_setCell | refine Nat.le_trans ?_ (Below.size (by assumption)))))).mono ?_
    rw [HC.out]
    rintro e w1 ⟨rfl, hb1⟩
    go_wp2
    go_ret2
    exact ⟨rfl, (by repeat' (first | with_reducible exact Below.refl _ _ | with_reducible assumption | with_reducible apply Below.drew | with_reducible apply below_drewN | with_reducible apply Below.alloc | with_reducible apply Below.setCell | (with_reducible refine Below.trans ?_ (Below.mono (by assumption) ?_)) | (simp; done) | (simp; omega) | omega | with_reducible apply le_size_alloc | with_reducible apply le_size_drewN | with_reducible apply le_size_drew | with_reducible apply le_size_setCell | refine Nat.le_trans ?_ (Below.size (by assumption))))⟩
  · obtain rfl : c = 0 := by omega
    rw [if_neg h0]
    have hv := valid_of_chk (chd_ok hc).1
    have hlen := hv.len
    have hhi := hv.hi
    clear hc h0 hv
    have b1 := ixOf_bd xs f; have b2 := ixOf_bd ys f
    generalize hix : ixOf xs f = ix at *
    generalize hiy : ixOf ys f = iy at *
    have HX := Lib.hid hix; have HY := Lib.hid hiy
    clear hix hiy
    rcases b1 with ⟨m1, a1, a2⟩ | ⟨m1, rfl⟩
    · have hw : Hid (fWhere xs ys f = 1) := if_pos m1
      clear b2 m1
      go_enter Try.func72, Try.ntmps72
      go_wp2_with fail
      refine (asks_any _ _ _ _ _ _ _ _ _ _ _ (HM.out.ext (by repeat' (first | with_reducible exact Below.refl _ _ | with_reducible assumption | with_reducible apply Below.drew | with_reducible apply below_drewN | with_reducible apply Below.alloc | with_reducible apply Below.setCell | (with_reducible refine Below.trans ?_ (Below.mono (by assumption) ?_)) | (simp; done) | (simp; omega) | omega | with_reducible apply le_size_alloc | with_reducible apply le_size_drewN | with_reducible apply le_size_drew | with_reducible apply le_size_setCell | refine Nat.le_trans ?_ (Below.size (by assumption)))))).mono ?_
      rw [HC.out]
      rintro e w1 ⟨rfl, hb1⟩
      have q0 : w1.cell? ⟨w.heap.size, 0, none⟩ = some (.slice Aa xs.length ca) := cell_keep hb1 (by simp) (by simp)
      go_wp2_with fail
      refine (place_any _ _ _ _ _ (HM.out.a.ext (by repeat' (first | with_reducible exact Below.refl _ _ | with_reducible assumption | with_reducible apply Below.drew | with_reducible apply below_drewN | with_reducible apply Below.alloc | with_reducible apply Below.setCell | (with_reducible refine Below.trans ?_ (Below.mono (by assumption) ?_)) | (simp; done) | (simp; omega) | omega | with_reducible apply le_size_alloc | with_reducible apply le_size_drewN | with_reducible apply le_size_drew | with_reducible apply le_size_setCell | refine Nat.le_trans ?_ (Below.size (by assumption))))) (by omega)).mono ?_
      rw [HX.out]
      rintro e w' ⟨rfl, rfl⟩
      go_wp2
      go_ret2
      exact ⟨by rw [hw.out]; rfl, (by repeat' (first | with_reducible exact Below.refl _ _ | with_reducible assumption | with_reducible apply Below.drew | with_reducible apply below_drewN | with_reducible apply Below.alloc | with_reducible apply Below.setCell | (with_reducible refine Below.trans ?_ (Below.mono (by assumption) ?_)) | (simp; done) | (simp; omega) | omega | with_reducible apply le_size_alloc | with_reducible apply le_size_drewN | with_reducible apply le_size_drew | with_reducible apply le_size_setCell | refine Nat.le_trans ?_ (Below.size (by assumption))))⟩
    · rcases b2 with ⟨m2, a1, a2⟩ | ⟨m2, rfl⟩
      · have hw : Hid (fWhere xs ys f = 2) := (if_neg m1).trans (if_pos m2)
        clear m1 m2
        go_enter Try.func72, Try.ntmps72
        go_wp2_with fail
        refine (asks_any _ _ _ _ _ _ _ _ _ _ _ (HM.out.ext (by repeat' (first | with_reducible exact Below.refl _ _ | with_reducible assumption | with_reducible apply Below.drew | with_reducible apply below_drewN | with_reducible apply Below.alloc | with_reducible apply Below.setCell | (with_reducible refine Below.trans ?_ (Below.mono (by assumption) ?_)) | (simp; done) | (simp; omega) | omega | with_reducible apply le_size_alloc | with_reducible apply le_size_drewN | with_reducible apply le_size_drew | with_reducible apply le_size_setCell | refine Nat.le_trans ?_ (Below.size (by assumption)))))).mono ?_
        rw [HC.out]
        rintro e w1 ⟨rfl, hb1⟩
        have q0 : w1.cell? ⟨w.heap.size, 0, none⟩ = some (.slice Aa xs.length ca) := cell_keep hb1 (by simp) (by simp)
        have q1 : w1.cell? ⟨w.heap.size, 1, none⟩ = some (.slice Ai ys.length ci) := cell_keep hb1 (by simp) (by simp)
        go_wp2_with fail
        refine (place_any _ _ _ _ _ (HM.out.a.ext (by repeat' (first | with_reducible exact Below.refl _ _ | with_reducible assumption | with_reducible apply Below.drew | with_reducible apply below_drewN | with_reducible apply Below.alloc | with_reducible apply Below.setCell | (with_reducible refine Below.trans ?_ (Below.mono (by assumption) ?_)) | (simp; done) | (simp; omega) | omega | with_reducible apply le_size_alloc | with_reducible apply le_size_drewN | with_reducible apply le_size_drew | with_reducible apply le_size_setCell | refine Nat.le_trans ?_ (Below.size (by assumption))))) (by omega)).mono ?_
        rw [HX.out]
        rintro e w' ⟨rfl, rfl⟩
        go_wp2_with fail
        refine (place_any _ _ _ _ _ (HM.out.i.ext (by repeat' (first | with_reducible exact Below.refl _ _ | with_reducible assumption | with_reducible apply Below.drew | with_reducible apply below_drewN | with_reducible apply Below.alloc | with_reducible apply Below.setCell | (with_reducible refine Below.trans ?_ (Below.mono (by assumption) ?_)) | (simp; done) | (simp; omega) | omega | with_reducible apply le_size_alloc | with_reducible apply le_size_drewN | with_reducible apply le_size_drew | with_reducible apply le_size_setCell | refine Nat.le_trans ?_ (Below.size (by assumption))))) (by omega)).mono ?_
        rw [HY.out]
        rintro e w' ⟨rfl, rfl⟩
        go_wp2
        go_ret2
        exact ⟨by rw [hw.out]; rfl, (by repeat' (first | with_reducible exact Below.refl _ _ | with_reducible assumption | with_reducible apply Below.drew | with_reducible apply below_drewN | with_reducible apply Below.alloc | with_reducible apply Below.setCell | (with_reducible refine Below.trans ?_ (Below.mono (by assumption) ?_)) | (simp; done) | (simp; omega) | omega | with_reducible apply le_size_alloc | with_reducible apply le_size_drewN | with_reducible apply le_size_drew | with_reducible apply le_size_setCell | refine Nat.le_trans ?_ (Below.size (by assumption))))⟩
      · have hw : Hid (fWhere xs ys f = 0) := (if_neg m1).trans (if_neg m2)
        clear m1 m2
        go_enter Try.func72, Try.ntmps72
        go_wp2_with fail
        refine (asks_any _ _ _ _ _ _ _ _ _ _ _ (HM.out.ext (by repeat' (first | with_reducible exact Below.refl _ _ | with_reducible assumption | with_reducible apply Below.drew | with_reducible apply below_drewN | with_reducible apply Below.alloc | with_reducible apply Below.setCell | (with_reducible refine Below.trans ?_ (Below.mono (by assumption) ?_)) | (simp; done) | (simp; omega) | omega | with_reducible apply le_size_alloc | with_reducible apply le_size_drewN | with_reducible apply le_size_drew | with_reducible apply le_size_setCell | refine Nat.le_trans ?_ (Below.size (by assumption)))))).mono ?_
        rw [HC.out]
        rintro e w1 ⟨rfl, hb1⟩
        have q0 : w1.cell? ⟨w.heap.size, 0, none⟩ = some (.slice Aa xs.length ca) := cell_keep hb1 (by simp) (by simp)
        have q1 : w1.cell? ⟨w.heap.size, 1, none⟩ = some (.slice Ai ys.length ci) := cell_keep hb1 (by simp) (by simp)
        go_wp2_with fail
        refine (place_any _ _ _ _ _ (HM.out.a.ext (by repeat' (first | with_reducible exact Below.refl _ _ | with_reducible assumption | with_reducible apply Below.drew | with_reducible apply below_drewN | with_reducible apply Below.alloc | with_reducible apply Below.setCell | (with_reducible refine Below.trans ?_ (Below.mono (by assumption) ?_)) | (simp; done) | (simp; omega) | omega | with_reducible apply le_size_alloc | with_reducible apply le_size_drewN | with_reducible apply le_size_drew | with_reducible apply le_size_setCell | refine Nat.le_trans ?_ (Below.size (by assumption))))) (by omega)).mono ?_
        rw [HX.out]
        rintro e w' ⟨rfl, rfl⟩
        go_wp2_with fail
        refine (place_any _ _ _ _ _ (HM.out.i.ext (by repeat' (first | with_reducible exact Below.refl _ _ | with_reducible assumption | with_reducible apply Below.drew | with_reducible apply below_drewN | with_reducible apply Below.alloc | with_reducible apply Below.setCell | (with_reducible refine Below.trans ?_ (Below.mono (by assumption) ?_)) | (simp; done) | (simp; omega) | omega | with_reducible apply le_size_alloc | with_reducible apply le_size_drewN | with_reducible apply le_size_drew | with_reducible apply le_size_setCell | refine Nat.le_trans ?_ (Below.size (by assumption))))) (by omega)).mono ?_
        rw [HY.out]
        rintro e w' ⟨rfl, rfl⟩
        go_wp2
        go_ret2
        exact ⟨by rw [hw.out]; rfl, (by repeat' (first | with_reducible exact Below.refl _ _ | with_reducible assumption | with_reducible apply Below.drew | with_reducible apply below_drewN | with_reducible apply Below.alloc | with_reducible apply Below.setCell | (with_reducible refine Below.trans ?_ (Below.mono (by assumption) ?_)) | (simp; done) | (simp; omega) | omega | with_reducible apply le_size_alloc | with_reducible apply le_size_drewN | with_reducible apply le_size_drew | with_reducible apply le_size_setCell | refine Nat.le_trans ?_ (Below.size (by assumption))))⟩
end Go.Proofs.Ytiobbdfkimpfbaa
