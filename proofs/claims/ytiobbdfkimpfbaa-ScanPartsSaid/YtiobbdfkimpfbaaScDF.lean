/- slices.IndexFunc, slices.DeleteFunc with a sweep's set of moved frames: whatever is struck. -/
import Derived.Test.YtiobbdfkimpfbaaMgE
import Derived.Lib.SliceRun
namespace Go.Proofs.Ytiobbdfkimpfbaa
set_option linter.unusedSimpArgs false
set_option linter.unusedVariables false
open Go.RowKit Go.Maps

/-- The first element that the set holds. -/
def fstIn (mv : List Int) : List Int → Option Nat
  | [] => none
  | x :: t => if x ∈ mv then some 0 else (fstIn mv t).map (· + 1)
theorem fstIn_none : ∀ {mv xs : List Int}, (∀ x ∈ xs, x ∉ mv) → fstIn mv xs = none
  | _, [], _ => rfl
  | mv, x :: t, h => by unfold fstIn; rw [if_neg (h x (by simp)), fstIn_none fun y hy => h y (by simp [hy])]; rfl
theorem fstIn_some : ∀ {mv xs : List Int} {k : Nat} {x : Int}, xs[k]? = some x → x ∈ mv → (∀ y ∈ xs.take k, y ∉ mv) → fstIn mv xs = some k
  | _, [], k, _, h, _, _ => by simp at h
  | mv, y :: t, 0, x, h, hm, _ => by simp at h; subst h; unfold fstIn; rw [if_pos hm]
  | mv, y :: t, k + 1, x, h, hm, hn => by
    unfold fstIn
    rw [if_neg (hn y (by simp)), fstIn_some (by simpa using h) hm fun z hz => hn z (by simp [hz])]
    rfl
def ixV (mv xs : List Int) : Int := match fstIn mv xs with | none => -1 | some k => k
/-- What is left. -/
def kep (mv xs : List Int) : List Int := xs.filter fun x => !decide (x ∈ mv)
theorem kep_len (mv xs : List Int) : (kep mv xs).length ≤ xs.length := List.length_filter_le _ _
theorem kep_snoc_yes {mv xs : List Int} {x : Int} (h : x ∉ mv) : kep mv (xs ++ [x]) = kep mv xs ++ [x] := by unfold kep; rw [List.filter_append]; simp [h]
theorem kep_snoc_no {mv xs : List Int} {x : Int} (h : x ∈ mv) : kep mv (xs ++ [x]) = kep mv xs := by unfold kep; rw [List.filter_append]; simp [h]
theorem kep_all {mv xs : List Int} (h : ∀ x ∈ xs, x ∉ mv) : kep mv xs = xs := List.filter_eq_self.2 fun x hx => by simpa using h x hx

set_option maxRecDepth 100000 in
set_option maxHeartbeats 4000000 in
theorem indexFunc_any (b : Nat) (mv : List Int) (A : Option Addr) (c : Nat) (xs : List Int) (w : World) (h : Sl w (.int .i64) A xs) (hl : xs.length ≤ 1000) (hw : ∀ q : Nat, q < 4 → w.cell? ⟨b, 5 + q, none⟩ = some (.int .u64 (wrd q mv)))
    (hx : ∀ x ∈ xs, 0 ≤ x ∧ x < 256) (hm : ∀ g ∈ mv, 0 ≤ g) :
    Calls Try.prog 77 #[.slice A xs.length c, .func (.func 57) #[.pointer (some ⟨b, 5, none⟩)] #[]] w fun e w' => e = .returned (.int .i64 (ixV mv xs)) ∧ w = w' := by
  have H := Lib.hid h; have HW := Lib.hid hw; have HX := Lib.hid hx; have HMM := Lib.hid hm
  clear h hw hx hm
  go_enter Try.func77, Try.ntmps77
  go_wp2_with fail
  go_loopw [5, 8] (fun _ i wr => ∃ k : Nat, k ≤ xs.length ∧ i = .int .i64 k ∧ w = wr ∧ Hid (∀ y ∈ xs.take k, y ∉ mv)) (fun _ i _ => xs.length - (intOf i).toNat)
  case atStart => exact ⟨0, Nat.zero_le _, rfl, rfl, fun y hy => by simp at hy⟩
  case round =>
    obtain ⟨k, hk, rfl, rfl, HN⟩ := hrel
    by_cases hlt : k < xs.length
    · obtain ⟨bb, off, x, rfl, hb, hx, hc⟩ := H.out.at_ hlt
      have i1 : (k : Int) < xs.length := by omega
      have hxr := HX.out x (List.mem_of_getElem? hx)
      have HXK := Lib.hid hx
      clear hx
      by_cases hxn : x ∈ mv
      · have HR : Hid (ixV mv xs = k) := by show _ = _; unfold ixV; rw [fstIn_some HXK.out hxn HN.out]
        go_wp2_with fail
        refine (has_mem b mv x w HW.out hxr.1 hxr.2 HMM.out).mono ?_
        rw [decide_eq_true hxn]
        rintro e y ⟨rfl, rfl⟩
        clear hxn hxr
        go_wp2_with fail
        go_ret
        exact ⟨ret_int HR.out.symm, rfl⟩
      · go_wp2_with fail
        refine (has_mem b mv x w HW.out hxr.1 hxr.2 HMM.out).mono ?_
        rw [decide_eq_false hxn]
        rintro e y ⟨rfl, rfl⟩
        have HXN := Lib.hid hxn
        clear hxn hxr
        go_wp2_with fail
        go_roundw
        case rel =>
          refine ⟨k + 1, by omega, by go_num, by first | rfl | trivial, ?_⟩
          show ∀ y ∈ _, _
          intro y hy
          rw [List.take_add_one, HXK.out] at hy
          rcases List.mem_append.1 hy with hy | hy
          · exact HN.out y hy
          · simp at hy; rw [hy]; exact HXN.out
        case measure => simp [intOf]; omega
    · obtain rfl : k = xs.length := by omega
      have HR : Hid (ixV mv xs = -1) := by show _ = _; unfold ixV; rw [fstIn_none (fun x hx => HN.out x (by rw [List.take_length]; exact hx))]
      go_wp2_with fail
      go_ret
      exact ⟨ret_int HR.out.symm, rfl⟩

theorem fstIn_spec : ∀ {mv xs : List Int} {k : Nat}, fstIn mv xs = some k → ∃ x, xs[k]? = some x ∧ x ∈ mv ∧ ∀ y ∈ xs.take k, y ∉ mv
  | _, [], k, h => by simp [fstIn] at h
  | mv, y :: t, k, h => by
    unfold fstIn at h
    by_cases hy : y ∈ mv
    · rw [if_pos hy] at h; injection h with h; subst h; exact ⟨y, rfl, hy, by simp⟩
    · rw [if_neg hy] at h
      cases ht : fstIn mv t with
      | none => rw [ht] at h; cases h
      | some j =>
        rw [ht] at h; injection h with h; subst h
        obtain ⟨x, h1, h2, h3⟩ := fstIn_spec ht
        refine ⟨x, by simpa using h1, h2, fun z hz => ?_⟩
        simp at hz
        rcases hz with rfl | hz
        · exact hy
        · exact h3 z hz
theorem fstIn_no : ∀ {mv xs : List Int}, fstIn mv xs = none → ∀ x ∈ xs, x ∉ mv
  | _, [], _ => by simp
  | mv, y :: t, h => by
    unfold fstIn at h
    by_cases hy : y ∈ mv
    · rw [if_pos hy] at h; cases h
    · rw [if_neg hy] at h
      intro x hx
      rcases List.mem_cons.1 hx with rfl | hx
      · exact hy
      · refine fstIn_no (xs := t) ?_ x hx
        cases ht : fstIn mv t with
        | none => rfl
        | some j => rw [ht] at h; cases h
/-- What lies in the row while it is rewritten. -/
structure KI (mv xs ds : List Int) (i j : Nat) : Prop where
  len : ds.length = xs.length
  low : ds.take i = kep mv (xs.take j)
  il : i = (kep mv (xs.take j)).length
  high : ∀ m, j ≤ m → ds[m]? = xs[m]?
  lt : i < j
theorem KI.start {mv xs : List Int} {k : Nat} (h : fstIn mv xs = some k) : KI mv xs xs k (k + 1) := by
  obtain ⟨x, h1, h2, h3⟩ := fstIn_spec h
  have hk := (List.getElem?_eq_some_iff.1 h1).1
  have e : kep mv (xs.take (k + 1)) = xs.take k := by rw [List.take_add_one, h1]; exact (kep_snoc_no h2).trans (kep_all h3)
  exact ⟨rfl, e.symm, by rw [e]; simp; omega, fun _ _ => rfl, by omega⟩
theorem KI.keep {mv xs ds : List Int} {i j : Nat} {x : Int} (h : KI mv xs ds i j) (hx : xs[j]? = some x) (hn : x ∉ mv) : KI mv xs (ds.set i x) (i + 1) (j + 1) := by
  have hj := (List.getElem?_eq_some_iff.1 hx).1
  have e : kep mv (xs.take (j + 1)) = kep mv (xs.take j) ++ [x] := by rw [List.take_add_one, hx]; exact kep_snoc_yes hn
  have hil : i < ds.length := by have := h.lt; rw [h.len]; omega
  refine ⟨by simpa using h.len, ?_, by rw [e, List.length_append, ← h.il]; rfl, fun m hm => ?_, by have := h.lt; omega⟩
  · rw [e, ← h.low, List.take_add_one, List.getElem?_set, if_pos rfl, if_pos hil, List.take_set_of_le (Nat.le_refl _)]
    rfl
  · rw [List.getElem?_set, if_neg (by have := h.lt; omega)]
    exact h.high m (by omega)
theorem KI.skip {mv xs ds : List Int} {i j : Nat} {x : Int} (h : KI mv xs ds i j) (hx : xs[j]? = some x) (hn : x ∈ mv) : KI mv xs ds i (j + 1) := by
  have e : kep mv (xs.take (j + 1)) = kep mv (xs.take j) := by rw [List.take_add_one, hx]; exact kep_snoc_no hn
  exact ⟨h.len, by rw [e]; exact h.low, by rw [e]; exact h.il, fun m hm => h.high m (by omega), by have := h.lt; omega⟩

set_option maxRecDepth 100000 in
set_option maxHeartbeats 8000000 in
theorem deleteFunc_any (b base : Nat) (mv : List Int) (A : Option Addr) (c : Nat) (xs : List Int) (w : World) (h : Own w base 3 (.int .i64) (.slice A xs.length c) xs) (hbb : b < base) (hl : xs.length ≤ 1000) (hw : ∀ q : Nat, q < 4 → w.cell? ⟨b, 5 + q, none⟩ = some (.int .u64 (wrd q mv)))
    (hx : ∀ x ∈ xs, 0 ≤ x ∧ x < 256) (hm : ∀ g ∈ mv, 0 ≤ g) :
    Calls Try.prog 56 #[.slice A xs.length c, .func (.func 57) #[.pointer (some ⟨b, 5, none⟩)] #[]] w fun e w' => e = .returned (.slice A (kep mv xs).length c) ∧ Own w' base 3 (.int .i64) (.slice A (kep mv xs).length c) (kep mv xs) ∧ Below base w w' := by
  have HI := Lib.hid (indexFunc_any b mv A c xs w (own_sl h) hl hw hx hm)
  cases hf : fstIn mv xs with
  | none =>
    have hk := kep_all (fstIn_no hf)
    have HV : Hid (ixV mv xs = -1) := by show _ = _; unfold ixV; rw [hf]
    have HO := Lib.hid h; have HK := Lib.hid hk
    rw [HK.out]
    clear h hw hx hm hf hk
    go_enter Try.func56, Try.ntmps56
    go_wp2_with fail
    refine HI.out.mono ?_
    rw [HV.out]
    rintro e y ⟨rfl, rfl⟩
    go_wp2_with fail
    go_ret
    exact ⟨rfl, HO.out, Below.refl _ _⟩
  | some k =>
    have HV : Hid (ixV mv xs = k) := by show _ = _; unfold ixV; rw [hf]
    have hki := KI.start hf
    obtain ⟨x0, hx0, _, _⟩ := fstIn_spec hf
    have hkl := (List.getElem?_eq_some_iff.1 hx0).1
    rcases h.form with ⟨_, rfl⟩ | ⟨g, cur, e, hbg, hh, hs, hmx, hcc⟩
    · simp at hkl
    injection e with e1 _ e2
    subst e1 e2
    have hne1 : ((k : Int) == -1) = false := beq_eq_false_iff_ne.2 (by omega)
    have hwk1 : IntKind.i64.wrap ((k : Int) + 1) = k + 1 := by rw [IntKind.wrap_i64]; omega
    have HW := Lib.hid hw; have HX := Lib.hid hx; have HMM := Lib.hid hm; have HKI := Lib.hid hki; have HH := Lib.hid hh; have HCC := Lib.hid hcc
    clear h hw hx hm hf hki hh hcc hx0
    go_enter Try.func56, Try.ntmps56
    go_wp2_with fail
    refine HI.out.mono ?_
    rw [HV.out]
    rintro e y ⟨rfl, rfl⟩
    go_wp2_with fail
    go_loopw [5, 6, 7] (fun i j _ wr => ∃ (m n : Nat) (ds : List Int) (cu : Array Value), i = .int .i64 m ∧ j = .int .i64 n ∧ n ≤ xs.length ∧ Hid (KI mv xs ds m n) ∧ Hid (Blk wr g 3 cu) ∧ cu.size = cur.size ∧ Hid (∀ (q : Nat) x, ds[q]? = some x → cu[q]? = some (.int .i64 x)) ∧ Hid (Below base w wr)) (fun _ j _ _ => xs.length - (intOf j).toNat)
    case atStart => exact ⟨k, k + 1, xs, cur, rfl, by go_num, by omega, HKI, HH, rfl, HCC, Below.refl _ _⟩
    case round =>
      clear HKI HH HCC HI HV
      obtain ⟨m, n, ds, cu, rfl, rfl, hn, HKI, HB, hcs, HC, HBW⟩ := hrel
      have hmn := HKI.out.lt
      have hdl := HKI.out.len
      have hcl : ∀ q : Nat, q < 4 → wr.cell? ⟨b, 5 + q, none⟩ = some (.int .u64 (wrd q mv)) := fun q hq => by
        rw [HBW.out.cell (p := ⟨b, 5 + q, none⟩) hbb]; exact HW.out q hq
      by_cases hlt : n < xs.length
      · obtain ⟨x, hx⟩ : ∃ x, xs[n]? = some x := ⟨_, List.getElem?_eq_getElem hlt⟩
        have hxr := HX.out x (List.mem_of_getElem? hx)
        have hdn : ds[n]? = some x := (HKI.out.high n (Nat.le_refl _)).trans hx
        have c0 : wr.cell? ⟨g, n, none⟩ = some (.int .i64 x) := by rw [HB.out.cell_]; exact HC.out n x hdn
        have hm1 : m < ds.length := by omega
        obtain ⟨y, hy⟩ : ∃ y, ds[m]? = some y := ⟨_, List.getElem?_eq_getElem hm1⟩
        have c1 : wr.cell? ⟨g, m, none⟩ = some (.int .i64 y) := by rw [HB.out.cell_]; exact HC.out m y hy
        have f1 := HB.out.frozen_ m
        have i1 : (n : Int) < xs.length := by omega
        have i2 : (m : Int) < xs.length := by omega
        have i3 : m < xs.length := by omega
        have hwm : IntKind.i64.wrap ((m : Int) + 1) = m + 1 := by rw [IntKind.wrap_i64]; omega
        have hwn : IntKind.i64.wrap ((n : Int) + 1) = n + 1 := by rw [IntKind.wrap_i64]; omega
        have HXN := Lib.hid hx; have HCL := Lib.hid hcl
        clear hx hdn hy hcl
        by_cases hxm : x ∈ mv
        · have HXM := Lib.hid hxm
          go_wp2_with fail
          refine (has_mem b mv x wr HCL.out hxr.1 hxr.2 HMM.out).mono ?_
          rw [decide_eq_true hxm]
          rintro e y ⟨rfl, rfl⟩
          clear hxm hxr
          go_wp2_with fail
          go_roundw
          case rel => exact ⟨m, n + 1, ds, cu, rfl, by go_num, by omega, HKI.out.skip HXN.out HXM.out, HB, hcs, HC, HBW⟩
          case measure => simp [intOf]; omega
        · have HXM := Lib.hid hxm
          go_wp2_with fail
          refine (has_mem b mv x wr HCL.out hxr.1 hxr.2 HMM.out).mono ?_
          rw [decide_eq_false hxm]
          rintro e y ⟨rfl, rfl⟩
          clear hxm hxr
          go_wp2_with fail
          go_roundw
          case rel =>
            refine ⟨m + 1, n + 1, ds.set m x, cu.setIfInBounds m (.int .i64 x), by go_num, by go_num, by omega, HKI.out.keep HXN.out HXM.out, HB.out.set_ m _, by simpa using hcs, ?_, HBW.out.setCell (p := ⟨g, m, none⟩) hbg _⟩
            show ∀ (q : Nat) z, _
            intro q z hz
            rw [List.getElem?_set] at hz
            by_cases e : m = q
            · subst e
              rw [if_pos rfl, if_pos (by omega)] at hz
              injection hz with hz
              subst hz
              simp [show m < cu.size by omega]
            · rw [if_neg e] at hz
              rw [Array.getElem?_setIfInBounds_ne e]
              exact HC.out q z hz
          case measure => simp [intOf]; omega
      · obtain rfl : n = xs.length := by omega
        have hlow := HKI.out.low
        have hil := HKI.out.il
        rw [List.take_length] at hlow hil
        have hclr : ∀ ty, (Builtin.clear_ #[22] ty #[.slice (some ⟨g, 0 + m, none⟩) (xs.length - m) (cur.size - m)]).run Try.prog wr = .ok (.tuple #[]) (wr.setCells g (0 + m) (List.replicate (xs.length - m) (.int .i64 0))) := fun ty =>
          Lib.run_clear_slice wr _ 3 ty (.int .i64 0) Try.underlying22 (fun _ => by kernel_rfl) rfl rfl g (0 + m) _ _ (by omega) (fun t ht => by rw [HB.out.cell_, Array.getElem?_eq_getElem (by omega)]; rfl) (fun t ht => HB.out.frozen_ _)
        have hclr2 : ∀ ty, (Builtin.clear_ #[22] ty #[.slice (some ⟨g, m, none⟩) (xs.length - m) (cur.size - m)]).run Try.prog wr = .ok (.tuple #[]) (wr.setCells g m (List.replicate (xs.length - m) (.int .i64 0))) := fun ty => by have := hclr ty; rwa [Nat.zero_add] at this
        have j1 : m ≤ xs.length := by omega
        have j2 : xs.length ≤ cur.size := hs
        have j3 : (m : Int) ≤ xs.length := by omega
        have HIL := Lib.hid hil; have HLO := Lib.hid hlow
        clear hcl hil hlow
        go_wp2_with fail
        go_ret
        refine ⟨by rw [← HIL.out]; rfl, ?_, ?_⟩
        · have hsz : (setMany cu m (List.replicate (xs.length - m) (Value.int .i64 0))).size = cur.size := by rw [setMany_size, hcs]
          have := Own.of_blk (mk := Value.int .i64) (xs := kep mv xs) (HB.out.setCells_ (List.replicate (xs.length - m) (.int .i64 0)) m) hbg (by rw [hsz, ← HIL.out]; omega) (by rw [hsz]; exact hmx) (fun q z hz => by
            have hq := (List.getElem?_eq_some_iff.1 hz).1
            rw [← HIL.out] at hq
            rw [setMany_at _ _ _ _ (by omega), if_neg (by omega)]
            refine HC.out q z ?_
            rw [← HLO.out, List.getElem?_take, if_pos hq] at hz
            exact hz)
          rw [hsz] at this
          exact this
        · exact HBW.out.grown (grown_setCells g _ _ (grown_refl _ _) (.inl rfl)) (by have := HBW.out.size; have := HB.out.lt; omega) (fun k hk => by injection hk with hk; omega)
end Go.Proofs.Ytiobbdfkimpfbaa
