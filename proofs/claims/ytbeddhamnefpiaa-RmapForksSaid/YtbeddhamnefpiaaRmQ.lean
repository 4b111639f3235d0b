/- rmap.Counts, Fork. Written by gen_rmq.py. -/
import Derived.Test.YtbeddhamnefpiaaRmO
namespace Go.Proofs.Ytbeddhamnefpiaa
set_option linter.unusedSimpArgs false
set_option linter.unusedVariables false
open Go.RowKit Go.Maps

/-- The map counts of all frames, as cells. -/
def cntA (l : List M3) : Array Value := ((List.range 256).map fun f : Nat => Value.int .i64 (cntM l f)).toArray
theorem cntA_at (l : List M3) {i : Nat} (h : i < 256) : (cntA l)[i]? = some (.int .i64 (cntM l i)) := by
  simp [cntA, h]
theorem cntA_set (l : List M3) (x : M3) {i : Nat} (h : i < 256) (e : x.1 = i) : (cntA l).setIfInBounds i (.int .i64 (cntM l i + 1)) = cntA (l ++ [x]) := by
  apply Array.ext_getElem?
  intro j
  by_cases hj : j < 256
  · rw [cntA_at _ hj, cntM_snoc, e, Array.getElem?_setIfInBounds]
    by_cases hij : i = j
    · subst hij
      rw [if_pos rfl, if_pos (by simp [cntA]; omega), if_pos rfl]
    · rw [if_neg hij, cntA_at _ hj, if_neg (by omega)]
      simp
  · rw [Array.getElem?_eq_none (by simp [cntA]; omega), Array.getElem?_eq_none (by simp [cntA]; omega)]
theorem mk256 (w : World) : (Instr.makeSlice 35 (.int .i64 256) (.int .i64 256)).run Try.prog w = .ok (.slice (some ⟨w.heap.size, 0, none⟩) 256 256) (w.alloc (.cells (cntA []) 3)) := by
  obtain ⟨i0, hi, hz0, hz1, hz2⟩ := info_parts (show (Try.prog.info? 3).map (fun i => (i.zero, i.size, i.bytes)) = some (some (.int .i64 0), 1, 8) by kernel_rfl)
  have h := run_makeSlice (P := Try.prog) (w := w) 35 3 i0 _ Try.underlying35 hi hz0 .i64 .i64 256 256 (by omega) (by omega) (by rw [hz1]; decide) (by rw [hz2]; decide) (by omega)
  rw [h, hz1]
  have e : madeCells (Value.int .i64 0).cells ((256 : Int).toNat * 1) = cntA [] := by
    simp [madeCells, cntA, cntM]
    kernel_rfl
  rw [e]
  rfl
def CnsPost (r : List Int × Int) (w : World) (e : Ending) (w' : World) : Prop := ∃ A c, e = .returned (.tuple #[.slice A r.1.length c, .int .i64 r.2]) ∧ Sl w' (.int .i64) A r.1 ∧ Below w.heap.size w w'
set_option maxRecDepth 100000 in
set_option maxHeartbeats 2000000 in
theorem Counts_any (A : Option Addr) (c : Nat) (l : List M3) (w : World) (ha : SR mapE w A l) (la : l.length ≤ 1000) :
    Calls Try.prog 18 #[.slice A l.length c] w (CnsPost (cnsM l) w) := by
  have HS := Lib.hid ha
  clear ha
  obtain ⟨z, hz⟩ : ∃ z, sndM l true = z := ⟨_, rfl⟩
  have HZ := Lib.hid hz
  by_cases z0 : z = 0
  · subst z0
    obtain ⟨hc, _⟩ := sndM_zero hz
    have ok := chkM_ok hc
    have HR : Hid (cnsM l = ((List.range 256).map (fun f : Nat => cntM l f), 0)) := by show _ = _; unfold cnsM; rw [if_neg (by simpa using hc)]
    have hmk := mk256
    clear hz hc
    go_enter Try.func18, Try.ntmps18
    go_wp2_with (first | (go_at_call 49; refine (sound_any A c l _ _ HS.out la HZ.out).mono ?_; rintro e w1 ⟨rfl, hb1⟩))
    have z1 := hb1.size
    go_loopw [16] (fun i wr => ∃ k : Nat, k ≤ l.length ∧ i = .int .i64 k ∧ Hid (Blk wr w1.heap.size 3 (cntA (l.take k))) ∧ Below w1.heap.size w1 wr ∧ w1.heap.size < wr.heap.size) (fun i _ => l.length - (intOf i).toNat)
    case atStart => exact ⟨0, by omega, rfl, Blk.new_ rfl rfl, (by repeat' (first | with_reducible exact Below.refl _ _ | with_reducible assumption | with_reducible apply Below.drew | with_reducible apply below_drewN | with_reducible apply Below.alloc | with_reducible apply Below.setCell | (with_reducible refine Below.trans ?_ (Below.mono (by assumption) ?_)) | (simp; done) | (simp; omega) | omega | with_reducible apply le_size_alloc | with_reducible apply le_size_drewN | with_reducible apply le_size_drew | with_reducible apply le_size_setCell | refine Nat.le_trans ?_ (Below.size (by assumption)))), by simp⟩
    case round =>
      obtain ⟨k, hk, rfl, HB, hbw, hBl⟩ := hrel
      have zw := hbw.size
      by_cases hlt : k < l.length
      · obtain ⟨b, off, x, rfl, hbl, hx, q0, q1, q2⟩ := map_at ((HS.out.ext hb1).ext hbw) hlt
        have i1 : (k : Int) < l.length := by omega
        have hokx := okM_iff x |>.1 (ok.ok x (List.mem_of_getElem? hx))
        obtain ⟨f, fp⟩ := x
        dsimp only at hokx q0 q1 q2
        obtain ⟨i, rfl⟩ : ∃ i : Nat, f = i := ⟨f.toNat, by omega⟩
        have hi : i < 256 := by omega
        have hi2 : (i : Int) < 256 := by omega
        have HN : Hid ((cntA (l.take k)).setIfInBounds i (.int .i64 (cntM (l.take k) i + 1)) = cntA (l.take (k + 1))) := by
          show _ = _
          rw [take_snoc hx]
          exact cntA_set (l.take k) ((i : Int), fp) hi rfl
        obtain ⟨z, hzc⟩ : ∃ z, cntM (l.take k) i = z := ⟨_, rfl⟩
        have hzl := cntM_le (l.take k) i
        rw [hzc] at hzl HN
        have hwr : IntKind.i64.wrap (z + 1) = z + 1 := IntWalk.i64_in _ (by have := List.length_take_le k l; omega)
        obtain ⟨W1, hW1⟩ : ∃ W1, wr.alloc (.cells #[.int .i64 i, .int .i64 fp.1, .int .i64 fp.2] 59) = W1 := ⟨_, rfl⟩
        have BW1 : Below w1.heap.size w1 W1 := by rw [← hW1]; exact hbw.alloc zw _
        have kW1 : Blk W1 wr.heap.size 59 #[.int .i64 i, .int .i64 fp.1, .int .i64 fp.2] := by rw [← hW1]; exact Blk.new_ rfl rfl
        have kC : Hid (Blk W1 w1.heap.size 3 (cntA (l.take k))) := by show Blk _ _ _ _; rw [← hW1]; exact HB.out.alloc_ _
        have hs1 : W1.heap.size = wr.heap.size + 1 := by rw [← hW1]; simp
        have m0 : W1.cell? ⟨wr.heap.size, 0, none⟩ = some (.int .i64 i) := by simpa using kW1.cell_ 0
        have e0 : W1.cell? ⟨w1.heap.size, i, none⟩ = some (.int .i64 z) := by rw [kC.out.cell_ i, cntA_at _ hi, hzc]
        have f0 : W1.frozen? ⟨w1.heap.size, i, none⟩ = false := kC.out.frozen_ i
        clear hx hzc hokx kW1
        go_wp2
        go_roundw
        case rel =>
          refine ⟨k + 1, by omega, by go_num, ?_, BW1.setCell (by exact Nat.le_refl _) _, by simp [World.setCell]; omega⟩
          show Blk _ _ _ _
          rw [← HN.out]
          exact kC.out.set_ i _
        case measure => simp [intOf]; omega
      · have hd : l.take k = l := List.take_of_length_le (by omega)
        have h1 := HB.out
        rw [hd] at h1
        have HF := Lib.hid h1
        clear hd h1 HB
        go_wp2
        refine bodyPost_ret (v := .tuple #[.slice (some ⟨w1.heap.size, 0, none⟩) 256 256, .int .i64 0]) (by simp [results, Try.results18, go_sem]) rfl ?_
        unfold CnsPost
        rw [HR.out]
        refine ⟨some ⟨w1.heap.size, 0, none⟩, 256, by simp, ?_, hb1.trans (hbw.mono z1)⟩
        exact Sl.of_blk HF.out (fun j y hy => by
          have hj : j < 256 := by have := (List.getElem?_eq_some_iff.1 hy).1; simpa using this
          rw [cntA_at _ hj]
          simp [hj] at hy
          rw [hy])
  · have HR : Hid (cnsM l = ([], z)) := by
      show _ = _
      unfold cnsM
      rcases sndM_ne hz z0 with ⟨h1, h2⟩ | ⟨h1, h2, h3⟩
      · rw [if_pos h1, h2]
      · cases h2
    have zb : (z != 0) = true := by simpa using z0
    clear hz
    go_enter Try.func18, Try.ntmps18
    go_wp2_with (first | (go_at_call 49; refine (sound_any A c l _ _ HS.out la HZ.out).mono ?_; rintro e w1 ⟨rfl, hb1⟩))
    refine bodyPost_ret (v := .tuple #[.slice none 0 0, .int .i64 z]) (by simp [results, Try.results18, go_sem]) rfl ?_
    unfold CnsPost
    rw [HR.out]
    exact ⟨none, 0, rfl, Sl.nil, hb1⟩

/-- What a fork adds. -/
def addsF (l : List M3) (n c : Int) : List M3 := (l.filter fun m => decide (m.2.1 = n)).map fun m => (m.1, c, m.2.2)
theorem addsF_snoc (l : List M3) (x : M3) (n c : Int) : addsF (l ++ [x]) n c = addsF l n c ++ if x.2.1 = n then [(x.1, c, x.2.2)] else [] := by
  unfold addsF
  by_cases h : x.2.1 = n <;> simp [h]
theorem mem_addsF {l : List M3} {n c : Int} {m : M3} : m ∈ addsF l n c ↔ ∃ y ∈ l, y.2.1 = n ∧ m = (y.1, c, y.2.2) := by
  unfold addsF
  simp only [List.mem_map, List.mem_filter, decide_eq_true_eq]
  constructor
  · rintro ⟨y, ⟨h1, h2⟩, rfl⟩; exact ⟨y, h1, h2, rfl⟩
  · rintro ⟨y, h1, h2, rfl⟩; exact ⟨y, ⟨h1, h2⟩, rfl⟩
theorem foldl_put : ∀ (ys o : List M3), Asc o → (∀ m ∈ ys, m ∉ o) → ys.Nodup → Asc (ys.foldl putM o) ∧ ∀ m, m ∈ ys.foldl putM o ↔ m ∈ ys ∨ m ∈ o
  | [], o, h, _, _ => ⟨h, by simp⟩
  | y :: ys, o, h, hn, hd => by
    have hd' := List.nodup_cons.1 hd
    obtain ⟨h1, h2⟩ := foldl_put ys (putM o y) (asc_putM h (hn y (by simp))) (fun m hm he => by
      rcases mem_putM.1 he with rfl | he
      · exact hd'.1 hm
      · exact hn m (by simp [hm]) he) hd'.2
    refine ⟨h1, fun m => ?_⟩
    rw [List.foldl_cons, h2 m, mem_putM, List.mem_cons]
    constructor
    · rintro (h | h | h) <;> simp [h]
    · rintro ((h | h) | h) <;> simp [h]
theorem foldl_put_len : ∀ (ys o : List M3), (ys.foldl putM o).length = o.length + ys.length
  | [], o => rfl
  | y :: ys, o => by rw [List.foldl_cons, foldl_put_len ys, putM_len, List.length_cons]; omega
theorem frkL_eq (l : List M3) (n c : Int) : frkL l n c = (addsF l n c).foldl putM l := by
  unfold frkL addsF
  rw [List.foldl_map]
theorem addsF_nodup {l : List M3} (ok : OkL l) (n c : Int) : (addsF l n c).Nodup := by
  unfold addsF
  rw [List.Nodup, List.pairwise_map]
  have h := (ok.filter (fun m => decide (m.2.1 = n))).pl
  refine List.Pairwise.imp_of_mem (fun {a b} ha hb hne e => ?_) h
  have h1 := of_decide_eq_true (List.mem_filter.1 ha).2
  have h2 := of_decide_eq_true (List.mem_filter.1 hb).2
  simp only [Prod.mk.injEq, true_and] at e
  exact hne (Prod.ext (by rw [h1, h2]) e.2)
theorem addsF_not {l : List M3} {n c : Int} (h : l.any (fun m => decide (m.2.1 = c)) = false) : ∀ m ∈ addsF l n c, m ∉ l := fun m hm he => by
  obtain ⟨y, _, _, rfl⟩ := mem_addsF.1 hm
  have := List.any_eq_false.1 h _ he
  simp at this
theorem frkL_spec {l : List M3} (ok : OkL l) {n c : Int} (h : l.any (fun m => decide (m.2.1 = c)) = false) : Asc (frkL l n c) ∧ ∀ m, m ∈ frkL l n c ↔ m ∈ addsF l n c ∨ m ∈ l := by
  rw [frkL_eq]
  exact foldl_put _ _ ok.asc (addsF_not h) (addsF_nodup ok n c)
theorem memF (ys l : List M3) (x m : M3) : m ∈ x :: (ys ++ l) ↔ m ∈ (ys ++ [x]) ++ l := by
  simp only [List.mem_cons, List.mem_append, List.not_mem_nil, or_false]
  constructor
  · rintro (h | h | h)
    · exact .inl (.inr h)
    · exact .inl (.inl h)
    · exact .inr h
  · rintro ((h | h) | h)
    · exact .inr (.inl h)
    · exact .inl h
    · exact .inr (.inr h)
def okNN (n c : Int) : Bool := okN n && (okN c && decide (n ≠ c))
theorem frkM_cases (l : List M3) (n c : Int) : (∃ z, z ≠ 0 ∧ sndM l (okNN n c) = z ∧ frkM l n c = ([], z)) ∨ (sndM l (okNN n c) = 0 ∧ OkL l ∧ okNN n c = true ∧
    ((l.any (fun m => decide (m.2.1 = c)) = true ∧ frkM l n c = ([], 7)) ∨ (l.any (fun m => decide (m.2.1 = c)) = false ∧ frkM l n c = (frkL l n c, 0)))) := by
  by_cases z0 : sndM l (okNN n c) = 0
  · obtain ⟨hc, hok⟩ := sndM_zero z0
    refine .inr ⟨z0, chkM_ok hc, hok, ?_⟩
    have hok5 : (okN n && (okN c && decide (n ≠ c))) = true := hok
    cases hf : l.any (fun m => decide (m.2.1 = c)) with
    | true => exact .inl ⟨rfl, by unfold frkM; rw [if_neg (by simpa using hc), if_pos hok5, if_pos hf]⟩
    | false => exact .inr ⟨rfl, by unfold frkM; rw [if_neg (by simpa using hc), if_pos hok5, hf]; rfl⟩
  · refine .inl ⟨_, z0, rfl, ?_⟩
    unfold frkM
    rcases sndM_ne rfl z0 with ⟨h1, h2⟩ | ⟨h1, h2, h3⟩
    · rw [if_pos h1, h2]
    · have h4 : ¬ (okN n && (okN c && decide (n ≠ c))) = true := by
        show ¬ okNN n c = true
        rw [h2]; simp
      rw [h3, if_neg (by simpa using h1), if_neg h4]

set_option maxRecDepth 100000 in
set_option maxHeartbeats 4000000 in
theorem Fork_any (A : Option Addr) (cc : Nat) (l : List M3) (n c : Int) (w : World) (ha : SR mapE w A l) (la : l.length ≤ 1000) :
    Calls Try.prog 25 #[.slice A l.length cc, .int .i64 n, .int .i64 c] w (LePost (frkM l n c) w) := by
  have HS := Lib.hid ha
  clear ha
  rcases frkM_cases l n c with ⟨y, hy, hz, hr⟩ | ⟨hz, ok, hok, hrest⟩
  · have HR := Lib.hid hr
    have yb : (y != 0) = true := by simpa using hy
    clear hr
    have fin : ∀ w1, Below w.heap.size w w1 → LePost (frkM l n c) w (.returned (.tuple #[.slice none 0 0, .int .i64 y])) w1 := fun w1 h => LePost.bad HR.out h
    cases d1 : decide (1 ≤ n ∧ n ≤ 8) with
    | false =>
      have HZ : Hid (sndM l false = y) := by show _ = _; rw [← hz]; congr 1; simp [okNN, okN, d1]
      clear hz
      go_enter Try.func25, Try.ntmps25
      go_wp2_with (first | (go_at_call 52; with_reducible refine (isProc_b n _ d1 _).mono ?_; rintro e w' ⟨rfl, rfl⟩) | (go_at_call 49; refine (sound_any A cc l _ _ HS.out la HZ.out).mono ?_; rintro e w1 ⟨rfl, hb1⟩; have z1 := hb1.size))
      refine bodyPost_ret (v := .tuple #[.slice none 0 0, .int .i64 y]) (by simp [results, Try.results25, go_sem]) rfl ?_
      exact fin _ hb1
    | true =>
      cases d2 : decide (1 ≤ c ∧ c ≤ 8) with
      | false =>
        have HZ : Hid (sndM l false = y) := by show _ = _; rw [← hz]; congr 1; simp [okNN, okN, d1, d2]
        clear hz
        go_enter Try.func25, Try.ntmps25
        go_wp2_with (first | (go_at_call 52; (first | with_reducible refine (isProc_b n _ d1 _).mono ?_ | with_reducible refine (isProc_b c _ d2 _).mono ?_); rintro e w' ⟨rfl, rfl⟩) | (go_at_call 49; refine (sound_any A cc l _ _ HS.out la HZ.out).mono ?_; rintro e w1 ⟨rfl, hb1⟩; have z1 := hb1.size))
        refine bodyPost_ret (v := .tuple #[.slice none 0 0, .int .i64 y]) (by simp [results, Try.results25, go_sem]) rfl ?_
        exact fin _ hb1
      | true =>
        by_cases d3 : n = c
        · have HZ : Hid (sndM l false = y) := by show _ = _; rw [← hz]; congr 1; simp [okNN, okN, d1, d2, d3]
          have d3b : (n != c) = false := by simpa using d3
          clear hz d3
          go_enter Try.func25, Try.ntmps25
          go_wp2_with (first | (go_at_call 52; (first | with_reducible refine (isProc_b n _ d1 _).mono ?_ | with_reducible refine (isProc_b c _ d2 _).mono ?_); rintro e w' ⟨rfl, rfl⟩) | (go_at_call 49; refine (sound_any A cc l _ _ HS.out la HZ.out).mono ?_; rintro e w1 ⟨rfl, hb1⟩; have z1 := hb1.size))
          refine bodyPost_ret (v := .tuple #[.slice none 0 0, .int .i64 y]) (by simp [results, Try.results25, go_sem]) rfl ?_
          exact fin _ hb1
        · have HZ : Hid (sndM l true = y) := by show _ = _; rw [← hz]; congr 1; simp [okNN, okN, d1, d2, d3]
          have d3b : (n != c) = true := by simpa using d3
          clear hz d3
          go_enter Try.func25, Try.ntmps25
          go_wp2_with (first | (go_at_call 52; (first | with_reducible refine (isProc_b n _ d1 _).mono ?_ | with_reducible refine (isProc_b c _ d2 _).mono ?_); rintro e w' ⟨rfl, rfl⟩) | (go_at_call 49; refine (sound_any A cc l _ _ HS.out la HZ.out).mono ?_; rintro e w1 ⟨rfl, hb1⟩; have z1 := hb1.size))
          refine bodyPost_ret (v := .tuple #[.slice none 0 0, .int .i64 y]) (by simp [results, Try.results25, go_sem]) rfl ?_
          exact fin _ hb1
  · have hh : decide (1 ≤ n ∧ n ≤ 8) = true ∧ decide (1 ≤ c ∧ c ≤ 8) = true ∧ n ≠ c := by
      have := hok
      unfold okNN okN at this
      simpa using this
    obtain ⟨d1, d2, d3⟩ := hh
    have hcc : 1 ≤ c ∧ c ≤ 8 := by simpa using d2
    have d3b : (n != c) = true := by simpa using d3
    rw [hok] at hz
    have HZ := Lib.hid hz
    have HE := Lib.hid hrest
    have D3 := Lib.hid d3
    have HCC := Lib.hid hcc
    clear hz hrest hok d3 hcc
    go_enter Try.func25, Try.ntmps25
    go_wp2_with (first | (go_at_call 52; (first | with_reducible refine (isProc_b n _ d1 _).mono ?_ | with_reducible refine (isProc_b c _ d2 _).mono ?_); rintro e w' ⟨rfl, rfl⟩) | (go_at_call 49; refine (sound_any A cc l _ _ HS.out la HZ.out).mono ?_; rintro e w1 ⟨rfl, hb1⟩; have z1 := hb1.size) | (go_at_call 55; refine (gather_any A cc l _ (HS.out.ext hb1) la ok.ok).mono ?_; rintro e w3 ⟨B, rfl, hB3, hs3, hb3⟩))
    have z3 := hb3.size
    have zB := hs3.lt
    have hb13 : Below w.heap.size w w3 := hb1.trans (hb3.mono z1)
    go_loopw [32] (fun i wr => ∃ (k : Nat) (ys : List M3), k ≤ l.length ∧ i = .int .i64 k ∧ Hid (addsF (l.take k) n c = ys) ∧ ys.length ≤ k ∧ Hid ((l.take k).any (fun m => decide (m.2.1 = c)) = false) ∧ Hid (SetP wr B (l.length + k) (ys ++ l)) ∧ Below w1.heap.size w1 wr ∧ B < wr.heap.size) (fun i _ => l.length - (intOf i).toNat)
    case atStart => exact ⟨0, [], by omega, rfl, by show _ = _; simp [addsF], by simp, by show _ = _; simp, by show SetP _ _ _ _; simpa using hs3, hb3, zB⟩
    case round =>
      obtain ⟨k, ys, hk, rfl, HY, hyl, HC, HK, hbw, hBl⟩ := hrel
      have zw := hbw.size
      by_cases hlt : k < l.length
      · obtain ⟨b, off, x, rfl, hbl, hx, q0, q1, q2⟩ := map_at ((HS.out.ext hb1).ext hbw) hlt
        have i1 : (k : Int) < l.length := by omega
        have hokx := ok.ok x (List.mem_of_getElem? hx)
        have HN : Hid (addsF (l.take (k + 1)) n c = ys ++ if x.2.1 = n then [(x.1, c, x.2.2)] else []) := by
          show _ = _
          rw [take_snoc hx, addsF_snoc, HY.out]
        have HC2 : x.2.1 ≠ c → Hid ((l.take (k + 1)).any (fun m => decide (m.2.1 = c)) = false) := fun h => by
          show _ = _
          rw [take_snoc hx, List.any_append, HC.out]
          simp [h]
        have HC3 : x.2.1 = c → Hid (frkM l n c = ([], 7)) := fun h => by
          show _ = _
          rcases HE.out with ⟨_, h2⟩ | ⟨h1, _⟩
          · exact h2
          · have := List.any_eq_false.1 h1 x (List.mem_of_getElem? hx)
            simp [h] at this
        clear hx HY
        by_cases e : x.2.1 = c
        · have HR := HC3 e
          have eb : (x.2.1 == c) = true := by simpa using e
          clear e HN HC2 HC3
          go_wp2
          refine bodyPost_ret (v := .tuple #[.slice none 0 0, .int .i64 7]) (by simp [results, Try.results25, go_sem]) rfl ?_
          exact LePost.bad HR.out (hb1.trans ((show Below w1.heap.size w1 _ from (by repeat' (first | with_reducible exact Below.refl _ _ | with_reducible assumption | with_reducible apply Below.drew | with_reducible apply below_drewN | with_reducible apply Below.alloc | with_reducible apply Below.setCell | (with_reducible refine Below.trans ?_ (Below.mono (by assumption) ?_)) | (simp; done) | (simp; omega) | omega | with_reducible apply le_size_alloc | with_reducible apply le_size_drewN | with_reducible apply le_size_drew | with_reducible apply le_size_setCell | refine Nat.le_trans ?_ (Below.size (by assumption))))).mono z1))
        · have HC' := HC2 e
          have eb : (x.2.1 == c) = false := by simpa using e
          clear e HC2 HC3
          by_cases e : x.2.1 = n
          · have HM : Hid (addsF (l.take (k + 1)) n c = ys ++ [(x.1, c, x.2.2)]) := by show _ = _; rw [HN.out, if_pos e]
            have en : (x.2.1 == n) = true := by simpa using e
            have hok2 : okM (x.1, c, x.2.2) = true := by
              rw [okM_iff] at hokx ⊢
              exact ⟨hokx.1, HCC.out, hokx.2.2⟩
            clear e HN hokx
            obtain ⟨W1, hW1⟩ : ∃ W1, wr.alloc (.cells #[.int .i64 x.1, .int .i64 x.2.1, .int .i64 x.2.2] 59) = W1 := ⟨_, rfl⟩
            have BW1 : Below wr.heap.size wr W1 := by rw [← hW1]; exact (Below.refl _ wr).alloc (Nat.le_refl _) _
            have kW1 : Blk W1 wr.heap.size 59 #[.int .i64 x.1, .int .i64 x.2.1, .int .i64 x.2.2] := by rw [← hW1]; exact Blk.new_ rfl rfl
            have hs1 : W1.heap.size = wr.heap.size + 1 := by rw [← hW1]; simp
            have m1 : W1.cell? ⟨wr.heap.size, 1, none⟩ = some (.int .i64 x.2.1) := by simpa using kW1.cell_ 1
            have f1 : W1.frozen? ⟨wr.heap.size, 1, none⟩ = false := kW1.frozen_ 1
            obtain ⟨W2, hW2⟩ : ∃ W2, W1.setCell ⟨wr.heap.size, 1, none⟩ (.int .i64 c) = W2 := ⟨_, rfl⟩
            have BW2 : Below wr.heap.size wr W2 := by rw [← hW2]; exact BW1.setCell (Nat.le_refl _) _
            have kW2 : Blk W2 wr.heap.size 59 #[.int .i64 x.1, .int .i64 c, .int .i64 x.2.2] := by rw [← hW2]; simpa using kW1.set_ 1 (.int .i64 c)
            have n0 : W2.cell? ⟨wr.heap.size, 0, none⟩ = some (.int .i64 x.1) := by simpa using kW2.cell_ 0
            have n1 : W2.cell? ⟨wr.heap.size, 1, none⟩ = some (.int .i64 c) := by simpa using kW2.cell_ 1
            have n2 : W2.cell? ⟨wr.heap.size, 2, none⟩ = some (.int .i64 x.2.2) := by simpa using kW2.cell_ 2
            go_wp2_with (first | (go_at_call 56; with_reducible refine (keyOf_c x.1 c x.2.2 hok2 _).mono ?_; rintro e w4 ⟨rfl, hb4⟩; have b4 : Below wr.heap.size wr w4 := BW2.trans (hb4.mono BW2.size); have hs4 := HK.out.below_ (C := wr.heap.size) b4 hBl; have z4 := b4.size) | (at_mapUpdate; refine wpList_putP _ rfl _ _ _ rfl B (l.length + k) (ys ++ l) rfl hs4 (by omega) (x.1, c, x.2.2) hok2 rfl rfl ?_; intro w5 hs5 hg5; have b5 : Below w1.heap.size w1 w5 := below_grown (hbw.trans (b4.mono zw)) hg5 hB3; have z5 := hg5.size))
            go_roundw
            case rel => exact ⟨k + 1, ys ++ [(x.1, c, x.2.2)], by omega, by go_num, HM.out, by simp; omega, HC'.out, hs5.congr (memF ys l (x.1, c, x.2.2)), b5, by omega⟩
            case measure => simp [intOf]; omega
          · have HM : Hid (addsF (l.take (k + 1)) n c = ys) := by show _ = _; rw [HN.out, if_neg e]; simp
            have en : (x.2.1 == n) = false := by simpa using e
            clear e HN
            go_wp2
            go_roundw
            case rel => exact ⟨k + 1, ys, by omega, by go_num, HM.out, by omega, HC'.out, (HK.out.below_ (C := wr.heap.size) (by repeat' (first | with_reducible exact Below.refl _ _ | with_reducible assumption | with_reducible apply Below.drew | with_reducible apply below_drewN | with_reducible apply Below.alloc | with_reducible apply Below.setCell | (with_reducible refine Below.trans ?_ (Below.mono (by assumption) ?_)) | (simp; done) | (simp; omega) | omega | with_reducible apply le_size_alloc | with_reducible apply le_size_drewN | with_reducible apply le_size_drew | with_reducible apply le_size_setCell | refine Nat.le_trans ?_ (Below.size (by assumption)))) hBl).mono (by omega), (by repeat' (first | with_reducible exact Below.refl _ _ | with_reducible assumption | with_reducible apply Below.drew | with_reducible apply below_drewN | with_reducible apply Below.alloc | with_reducible apply Below.setCell | (with_reducible refine Below.trans ?_ (Below.mono (by assumption) ?_)) | (simp; done) | (simp; omega) | omega | with_reducible apply le_size_alloc | with_reducible apply le_size_drewN | with_reducible apply le_size_drew | with_reducible apply le_size_setCell | refine Nat.le_trans ?_ (Below.size (by assumption)))), by simp; omega⟩
            case measure => simp [intOf]; omega
      · have hd : l.take k = l := List.take_of_length_le (by omega)
        have h1 := HY.out
        have h2 := HC.out
        rw [hd] at h1 h2
        have HR : Hid (frkM l n c = (frkL l n c, 0)) := by
          show _ = _
          rcases HE.out with ⟨h3, _⟩ | ⟨_, h4⟩
          · rw [h2] at h3; cases h3
          · exact h4
        obtain ⟨h3, h4⟩ := frkL_spec (n := n) ok h2
        have HA := Lib.hid h3
        have HM : Hid (∀ m, m ∈ frkL l n c ↔ m ∈ ys ++ l) := by
          show ∀ m, _
          intro m
          rw [h4 m, h1, List.mem_append]
        clear hd h1 h2 h3 h4 HC HY
        go_wp2_with ((go_at_call 57; refine (list_any B (l.length + k) (ys ++ l) (frkL l n c) wr HK.out (by omega) HA.out HM.out).mono ?_; rintro e w6 ⟨A6, c6, rfl, hc6, hb6⟩))
        refine bodyPost_ret (v := .tuple #[.slice A6 (frkL l n c).length c6, .int .i64 0]) (by simp [results, Try.results25, go_sem]) rfl ?_
        unfold LePost
        rw [HR.out]
        exact ⟨A6, c6, rfl, hc6, hb1.trans ((hbw.trans (hb6.mono zw)).mono z1)⟩
end Go.Proofs.Ytbeddhamnefpiaa
