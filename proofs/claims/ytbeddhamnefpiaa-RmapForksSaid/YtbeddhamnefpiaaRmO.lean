/- rmap.Drop, Move. Written by gen_rmo.py. -/
import Derived.Test.YtbeddhamnefpiaaRmN
namespace Go.Proofs.Ytbeddhamnefpiaa
set_option linter.unusedSimpArgs false
set_option linter.unusedVariables false
open Go.RowKit Go.Maps

def DrpPost (r : List M3 × List (Int × Int) × Int) (w : World) (e : Ending) (w' : World) : Prop :=
  ∃ A c A2 c2, e = .returned (.tuple #[.slice A r.1.length c, .slice A2 r.2.1.length c2, .int .i64 r.2.2]) ∧ CR mapE w' A c r.1 ∧ CR plE w' A2 c2 r.2.1 ∧ Below w.heap.size w w'
theorem DrpPost.bad {r : List M3 × List (Int × Int) × Int} {z : Int} {w w' : World} (h : r = ([], [], z)) (hb : Below w.heap.size w w') : DrpPost r w (.returned (.tuple #[.slice none 0 0, .slice none 0 0, .int .i64 z])) w' := by
  subst h
  exact ⟨none, 0, none, 0, rfl, CR.nil, CR.nil, hb⟩
theorem mem_plsM {l : List M3} {f : Int} {p : Int × Int} : p ∈ plsM l f ↔ (f, p) ∈ l := by
  unfold plsM
  simp only [List.mem_map, List.mem_filter, decide_eq_true_eq]
  constructor
  · rintro ⟨m, ⟨h1, rfl⟩, rfl⟩; exact h1
  · intro h; exact ⟨_, ⟨h, rfl⟩, rfl⟩
/-- The list without the first k places of a frame. -/
def drpK (l : List M3) (f : Int) (k : Nat) : List M3 := l.filter fun m => decide (m ∉ ((plsM l f).take k).map (fun p => (f, p)))
theorem drpK_zero (l : List M3) (f : Int) : drpK l f 0 = l := by simp [drpK]
theorem drpK_succ {l : List M3} {f : Int} {k : Nat} {p : Int × Int} (h : (plsM l f)[k]? = some p) (m : M3) : m ∈ (drpK l f k).filter (fun m => decide (m ≠ (f, p))) ↔ m ∈ drpK l f (k + 1) := by
  obtain ⟨hk, rfl⟩ := List.getElem?_eq_some_iff.1 h
  unfold drpK
  rw [List.take_succ_eq_append_getElem hk]
  simp only [List.mem_filter, decide_eq_true_eq, List.map_append, List.map_cons, List.map_nil, List.mem_append, List.mem_cons, List.not_mem_nil, or_false, not_or, ne_eq]
  constructor
  · rintro ⟨⟨a, b⟩, c⟩; exact ⟨a, b, c⟩
  · rintro ⟨a, b, c⟩; exact ⟨⟨a, b⟩, c⟩
theorem drpK_end {l : List M3} {f : Int} {k : Nat} (h : (plsM l f).length ≤ k) (m : M3) : m ∈ l.filter (fun m => decide (m.1 ≠ f)) ↔ m ∈ drpK l f k := by
  unfold drpK
  rw [List.take_of_length_le h]
  simp only [List.mem_filter, decide_eq_true_eq, List.mem_map, ne_eq, not_exists, not_and]
  constructor
  · rintro ⟨a, b⟩
    exact ⟨a, fun p hp e => b (by rw [← e])⟩
  · rintro ⟨a, b⟩
    refine ⟨a, fun e => b m.2 (mem_plsM.2 (by rw [← e]; exact a)) (by rw [← e])⟩
theorem drpM_eq (l : List M3) (f : Int) : drpM l f = ((if (ofM l f).2 = 0 then l.filter (fun m => decide (m.1 ≠ f)) else []), ofM l f) := by
  unfold drpM ofM
  by_cases h0 : (chkM l).1 ≠ 0
  · rw [if_pos h0, if_pos h0]; simp [h0]
  · rw [if_neg h0, if_neg h0]
    cases okF f <;> simp

set_option maxRecDepth 100000 in
set_option maxHeartbeats 2000000 in
theorem Drop_any (A : Option Addr) (c : Nat) (l : List M3) (f : Int) (w : World) (ha : SR mapE w A l) (la : l.length ≤ 1000) :
    Calls Try.prog 33 #[.slice A l.length c, .int .i64 f] w (DrpPost (drpM l f) w) := by
  have HS := Lib.hid ha
  clear ha
  rcases ofM_cases l f with ⟨y, hy, hz, hr⟩ | ⟨hz, ok, hb, hr⟩
  · have HR : Hid (drpM l f = ([], [], y)) := by show _ = _; rw [drpM_eq, hr, if_neg hy]
    have HO := Lib.hid hr
    have yb : (y != 0) = true := by simpa using hy
    clear hz hr
    go_enter Try.func33, Try.ntmps33
    go_wp2_with (first | (go_at_call 16; refine (Of_any A c l f _ HS.out la).mono ?_; unfold OfPost; rw [HO.out]; rintro e w1 ⟨A2, c2, rfl, hc2, hb1⟩; dsimp only at hc2 ⊢; have z1 := hb1.size))
    refine bodyPost_ret (v := .tuple #[.slice none 0 0, .slice none 0 0, .int .i64 y]) (by simp [results, Try.results33, go_sem]) rfl ?_
    exact DrpPost.bad HR.out hb1
  · have HR : Hid (drpM l f = (l.filter (fun m => decide (m.1 ≠ f)), plsM l f, 0)) := by show _ = _; rw [drpM_eq, hr, if_pos rfl]
    have HO := Lib.hid hr
    have hpl := plsM_len l f
    obtain ⟨ps, hps⟩ : ∃ ps, plsM l f = ps := ⟨_, rfl⟩
    have HP := Lib.hid hps
    rw [hps] at HO hpl
    have HA : Hid (Asc (l.filter (fun m => decide (m.1 ≠ f)))) := asc_filter ok.asc _
    clear hz hr hps
    go_enter Try.func33, Try.ntmps33
    go_wp2_with (first | (go_at_call 16; refine (Of_any A c l f _ HS.out la).mono ?_; unfold OfPost; rw [HO.out]; rintro e w1 ⟨A2, c2, rfl, hc2, hb1⟩; dsimp only at hc2 ⊢; have z1 := hb1.size) | (go_at_call 55; refine (gather_any A c l _ (HS.out.ext hb1) la ok.ok).mono ?_; rintro e w3 ⟨B, rfl, hB3, hs3, hb3⟩))
    have HC2 := Lib.hid hc2
    have hb13 : Below w.heap.size w w3 := hb1.trans (hb3.mono z1)
    have zB := hs3.lt
    clear hc2
    go_loopw [25] (fun i wr => ∃ k : Nat, k ≤ ps.length ∧ i = .int .i64 k ∧ Hid (SetP wr B l.length (drpK l f k)) ∧ Below w1.heap.size w1 wr ∧ B < wr.heap.size) (fun i _ => ps.length - (intOf i).toNat)
    case atStart => exact ⟨0, by omega, rfl, by show SetP _ _ _ _; rw [drpK_zero]; exact hs3, hb3, zB⟩
    case round =>
      obtain ⟨k, hk, rfl, HK, hbw, hBl⟩ := hrel
      have zw := hbw.size
      by_cases hlt : k < ps.length
      · obtain ⟨bb, off, x, rfl, hbl, hx, q0, q1⟩ := pl_at (HC2.out.1.ext hbw) hlt
        have i1 : (k : Int) < ps.length := by omega
        have hx' : (plsM l f)[k]? = some x := by rw [HP.out]; exact hx
        have hok : okM (f, x) = true := ok.ok _ (mem_plsM.1 (List.mem_of_getElem? hx'))
        have HN : Hid (∀ m, m ∈ (drpK l f k).filter (fun m => decide (m ≠ (f, x))) ↔ m ∈ drpK l f (k + 1)) := drpK_succ hx'
        clear hx hx'
        go_wp2_with (first | (go_at_call 56; refine (keyOf_any (f, x) hok _).mono ?_; rintro e w4 ⟨rfl, hb4⟩; dsimp only [kvM]; have b4 : Below wr.heap.size wr w4 := (by repeat' (first | with_reducible exact Below.refl _ _ | with_reducible assumption | with_reducible apply Below.drew | with_reducible apply below_drewN | with_reducible apply Below.alloc | with_reducible apply Below.setCell | (with_reducible refine Below.trans ?_ (Below.mono (by assumption) ?_)) | (simp; done) | (simp; omega) | omega | with_reducible apply le_size_alloc | with_reducible apply le_size_drewN | with_reducible apply le_size_drew | with_reducible apply le_size_setCell | refine Nat.le_trans ?_ (Below.size (by assumption)))); have hs4 := HK.out.below_ (C := wr.heap.size) b4 hBl; have z4 := b4.size) | (at_delete; refine wpList_delP _ rfl _ _ rfl B l.length (drpK l f k) rfl hs4 (f, x) hok rfl ?_; intro w5 hs5 hg5; have b5 : Below w1.heap.size w1 w5 := below_grown (hbw.trans (b4.mono zw)) hg5 hB3; have z5 := hg5.size))
        go_roundw
        case rel => exact ⟨k + 1, by omega, by go_num, hs5.congr HN.out, b5, by omega⟩
        case measure => simp [intOf]; omega
      · have HE : Hid (∀ m, m ∈ l.filter (fun m => decide (m.1 ≠ f)) ↔ m ∈ drpK l f k) := drpK_end (by rw [HP.out]; omega)
        go_wp2_with ((go_at_call 57; refine (list_any B l.length (drpK l f k) (l.filter (fun m => decide (m.1 ≠ f))) wr HK.out (by omega) HA.out HE.out).mono ?_; rintro e w6 ⟨A6, c6, rfl, hc6, hb6⟩))
        refine bodyPost_ret (v := .tuple #[.slice A6 (l.filter (fun m => decide (m.1 ≠ f))).length c6, .slice A2 ps.length c2, .int .i64 0]) (by simp [results, Try.results33, go_sem]) rfl ?_
        unfold DrpPost
        rw [HR.out, HP.out]
        exact ⟨A6, c6, A2, c2, rfl, hc6, (HC2.out.ext hbw).ext hb6, hb1.trans ((hbw.trans (hb6.mono zw)).mono z1)⟩

def MovPost (r : List M3 × Int × Int) (w : World) (e : Ending) (w' : World) : Prop := ∃ A c, e = .returned (.tuple #[.slice A r.1.length c, .int .i64 r.2.1, .int .i64 r.2.2]) ∧ CR mapE w' A c r.1 ∧ Below w.heap.size w w'
theorem MovPost.bad {r : List M3 × Int × Int} {z : Int} {w w' : World} (h : r = ([], 0, z)) (hb : Below w.heap.size w w') : MovPost r w (.returned (.tuple #[.slice none 0 0, .int .i64 0, .int .i64 z])) w' := by
  subst h
  exact ⟨none, 0, rfl, CR.nil, hb⟩
theorem movM_cases (l : List M3) (f : Int) (p : Int × Int) : (∃ z, z ≠ 0 ∧ sndM l (okM (f, p)) = z ∧ movM l p f = ([], 0, z)) ∨ (sndM l (okM (f, p)) = 0 ∧ OkL l ∧ okM (f, p) = true ∧
    ((findM l p = none ∧ movM l p f = ([], 0, 6)) ∨ ∃ o, findM l p = some o ∧ movM l p f = (putM (delM l (o, p)) (f, p), cntM (putM (delM l (o, p)) (f, p)) o, 0))) := by
  by_cases z0 : sndM l (okM (f, p)) = 0
  · obtain ⟨hc, hok⟩ := sndM_zero z0
    refine .inr ⟨z0, chkM_ok hc, hok, ?_⟩
    cases hf : findM l p with
    | none => exact .inl ⟨rfl, by unfold movM; rw [if_neg (by simpa using hc), if_pos hok, hf]⟩
    | some o => exact .inr ⟨o, rfl, by unfold movM; rw [if_neg (by simpa using hc), if_pos hok, hf]⟩
  · refine .inl ⟨_, z0, rfl, ?_⟩
    unfold movM
    rcases sndM_ne rfl z0 with ⟨h1, h2⟩ | ⟨h1, h2, h3⟩
    · rw [if_pos h1, h2]
    · rw [h3, if_neg (by simpa using h1), h2]; rfl
theorem keyOf_c (f p q : Int) (h : okM (f, p, q) = true) (w : World) : Calls Try.prog 56 #[.agg #[.int .i64 f, .int .i64 p, .int .i64 q]] w fun e w' => e = .returned (.agg #[.int .i64 f, .int .i64 (p * 64 + q)]) ∧ Below w.heap.size w w' := keyOf_any (f, p, q) h w
theorem not_delM {l : List M3} (ok : OkL l) {o : Int} {p : Int × Int} (h : (o, p) ∈ l) (f : Int) : (f, p) ∉ delM l (o, p) := fun hm => by
  unfold delM at hm
  obtain ⟨h1, h2⟩ := List.mem_filter.1 hm
  exact (by simpa using h2 : ¬ (f, p) = (o, p)) (ok.inj h1 h rfl)

set_option maxRecDepth 100000 in
set_option maxHeartbeats 2000000 in
theorem Move_any (A : Option Addr) (c : Nat) (l : List M3) (p q f : Int) (w : World) (ha : SR mapE w A l) (la : l.length ≤ 1000) :
    Calls Try.prog 31 #[.slice A l.length c, .agg #[.int .i64 p, .int .i64 q], .int .i64 f] w (MovPost (movM l (p, q) f) w) := by
  have HS := Lib.hid ha
  clear ha
  obtain ⟨V, hV⟩ : ∃ V, w.alloc (.cells #[.int .i64 p, .int .i64 q] 24) = V := ⟨_, rfl⟩
  have BV : Below w.heap.size w V := by rw [← hV]; exact (Below.refl _ w).alloc (Nat.le_refl _) _
  have kV : Blk V w.heap.size 24 #[.int .i64 p, .int .i64 q] := by rw [← hV]; exact Blk.new_ rfl rfl
  have zV : w.heap.size < V.heap.size := kV.lt
  have p0 : V.cell? ⟨w.heap.size, 0, none⟩ = some (.int .i64 p) := by simpa using kV.cell_ 0
  have p1 : V.cell? ⟨w.heap.size, 1, none⟩ = some (.int .i64 q) := by simpa using kV.cell_ 1
  have HSV := Lib.hid (HS.out.ext BV)
  rcases movM_cases l f (p, q) with ⟨y, hy, hz, hr⟩ | ⟨hz, ok, hok, hrest⟩
  · have HR := Lib.hid hr
    have yb : (y != 0) = true := by simpa using hy
    clear hr
    cases d2 : okP (p, q) with
    | false =>
      have HZ : Hid (sndM l false = y) := by show _ = _; rw [← hz]; congr 1; simp [okM, d2]
      clear hz
      go_enter Try.func31, Try.ntmps31
      go_wp2_with (first | (go_at_call 42; refine (isFrame_b _ _ d1 _).mono ?_; rintro e w' ⟨rfl, rfl⟩) | (go_at_call 43; refine (isPlace_b _ _ _ d2 _).mono ?_; rintro e w' ⟨rfl, rfl⟩) | (go_at_call 49; refine (sound_any A c l _ _ (HSV.out.ext (by repeat' (first | with_reducible exact Below.refl _ _ | with_reducible assumption | with_reducible apply Below.drew | with_reducible apply below_drewN | with_reducible apply Below.alloc | with_reducible apply Below.setCell | (with_reducible refine Below.trans ?_ (Below.mono (by assumption) ?_)) | (simp; done) | (simp; omega) | omega | with_reducible apply le_size_alloc | with_reducible apply le_size_drewN | with_reducible apply le_size_drew | with_reducible apply le_size_setCell | refine Nat.le_trans ?_ (Below.size (by assumption))))) la HZ.out).mono ?_; rintro e w1 ⟨rfl, hb1⟩; have bw1 : Below V.heap.size V w1 := (by repeat' (first | with_reducible exact Below.refl _ _ | with_reducible assumption | with_reducible apply Below.drew | with_reducible apply below_drewN | with_reducible apply Below.alloc | with_reducible apply Below.setCell | (with_reducible refine Below.trans ?_ (Below.mono (by assumption) ?_)) | (simp; done) | (simp; omega) | omega | with_reducible apply le_size_alloc | with_reducible apply le_size_drewN | with_reducible apply le_size_drew | with_reducible apply le_size_setCell | refine Nat.le_trans ?_ (Below.size (by assumption)))); have zw1 := bw1.size; have p0w1 := cell_keep bw1 p0 zV; have p1w1 := cell_keep bw1 p1 zV))
      refine bodyPost_ret (v := .tuple #[.slice none 0 0, .int .i64 0, .int .i64 y]) (by simp [results, Try.results31, go_sem]) rfl ?_
      exact MovPost.bad HR.out (BV.trans (bw1.mono BV.size))
    | true =>
      cases d1 : decide (0 ≤ f ∧ f < 256)
      all_goals
        have HZ := Lib.hid hz
        simp only [okM, d1, d2, Bool.and_true, Bool.and_false] at HZ
        clear hz
        go_enter Try.func31, Try.ntmps31
        go_wp2_with (first | (go_at_call 42; refine (isFrame_b _ _ d1 _).mono ?_; rintro e w' ⟨rfl, rfl⟩) | (go_at_call 43; refine (isPlace_b _ _ _ d2 _).mono ?_; rintro e w' ⟨rfl, rfl⟩) | (go_at_call 49; refine (sound_any A c l _ _ (HSV.out.ext (by repeat' (first | with_reducible exact Below.refl _ _ | with_reducible assumption | with_reducible apply Below.drew | with_reducible apply below_drewN | with_reducible apply Below.alloc | with_reducible apply Below.setCell | (with_reducible refine Below.trans ?_ (Below.mono (by assumption) ?_)) | (simp; done) | (simp; omega) | omega | with_reducible apply le_size_alloc | with_reducible apply le_size_drewN | with_reducible apply le_size_drew | with_reducible apply le_size_setCell | refine Nat.le_trans ?_ (Below.size (by assumption))))) la HZ.out).mono ?_; rintro e w1 ⟨rfl, hb1⟩; have bw1 : Below V.heap.size V w1 := (by repeat' (first | with_reducible exact Below.refl _ _ | with_reducible assumption | with_reducible apply Below.drew | with_reducible apply below_drewN | with_reducible apply Below.alloc | with_reducible apply Below.setCell | (with_reducible refine Below.trans ?_ (Below.mono (by assumption) ?_)) | (simp; done) | (simp; omega) | omega | with_reducible apply le_size_alloc | with_reducible apply le_size_drewN | with_reducible apply le_size_drew | with_reducible apply le_size_setCell | refine Nat.le_trans ?_ (Below.size (by assumption)))); have zw1 := bw1.size; have p0w1 := cell_keep bw1 p0 zV; have p1w1 := cell_keep bw1 p1 zV))
        refine bodyPost_ret (v := .tuple #[.slice none 0 0, .int .i64 0, .int .i64 y]) (by simp [results, Try.results31, go_sem]) rfl ?_
        exact MovPost.bad HR.out (BV.trans (bw1.mono BV.size))
  · have hh : decide (0 ≤ f ∧ f < 256) = true ∧ okP (p, q) = true := by
      have := hok
      unfold okM at this
      rwa [Bool.and_eq_true] at this
    obtain ⟨d1, d2⟩ := hh
    rw [hok] at hz
    have HZ := Lib.hid hz
    rcases hrest with ⟨hf, hr⟩ | ⟨g, hf, hr⟩
    · have HR := Lib.hid hr
      have HF := Lib.hid hf
      clear hf hz hr hok ok
      go_enter Try.func31, Try.ntmps31
      go_wp2_with (first | (go_at_call 42; refine (isFrame_b _ _ d1 _).mono ?_; rintro e w' ⟨rfl, rfl⟩) | (go_at_call 43; refine (isPlace_b _ _ _ d2 _).mono ?_; rintro e w' ⟨rfl, rfl⟩) | (go_at_call 49; refine (sound_any A c l _ _ (HSV.out.ext (by repeat' (first | with_reducible exact Below.refl _ _ | with_reducible assumption | with_reducible apply Below.drew | with_reducible apply below_drewN | with_reducible apply Below.alloc | with_reducible apply Below.setCell | (with_reducible refine Below.trans ?_ (Below.mono (by assumption) ?_)) | (simp; done) | (simp; omega) | omega | with_reducible apply le_size_alloc | with_reducible apply le_size_drewN | with_reducible apply le_size_drew | with_reducible apply le_size_setCell | refine Nat.le_trans ?_ (Below.size (by assumption))))) la HZ.out).mono ?_; rintro e w1 ⟨rfl, hb1⟩; have bw1 : Below V.heap.size V w1 := (by repeat' (first | with_reducible exact Below.refl _ _ | with_reducible assumption | with_reducible apply Below.drew | with_reducible apply below_drewN | with_reducible apply Below.alloc | with_reducible apply Below.setCell | (with_reducible refine Below.trans ?_ (Below.mono (by assumption) ?_)) | (simp; done) | (simp; omega) | omega | with_reducible apply le_size_alloc | with_reducible apply le_size_drewN | with_reducible apply le_size_drew | with_reducible apply le_size_setCell | refine Nat.le_trans ?_ (Below.size (by assumption)))); have zw1 := bw1.size; have p0w1 := cell_keep bw1 p0 zV; have p1w1 := cell_keep bw1 p1 zV) | (go_at_call 50; refine (find_any A c l _ _ _ (HSV.out.ext bw1) la HF.out).mono ?_; rintro e w2 ⟨rfl, hb2⟩; dsimp only [findV]; have bw2 : Below V.heap.size V w2 := (by repeat' (first | with_reducible exact Below.refl _ _ | with_reducible assumption | with_reducible apply Below.drew | with_reducible apply below_drewN | with_reducible apply Below.alloc | with_reducible apply Below.setCell | (with_reducible refine Below.trans ?_ (Below.mono (by assumption) ?_)) | (simp; done) | (simp; omega) | omega | with_reducible apply le_size_alloc | with_reducible apply le_size_drewN | with_reducible apply le_size_drew | with_reducible apply le_size_setCell | refine Nat.le_trans ?_ (Below.size (by assumption)))); have zw2 := bw2.size; have p0w2 := cell_keep bw2 p0 zV; have p1w2 := cell_keep bw2 p1 zV))
      refine bodyPost_ret (v := .tuple #[.slice none 0 0, .int .i64 0, .int .i64 6]) (by simp [results, Try.results31, go_sem]) rfl ?_
      exact MovPost.bad HR.out (BV.trans (bw2.mono BV.size))
    · have HR := Lib.hid hr
      have HF := Lib.hid hf
      have hin := findM_some hf
      have hog : okM (g, p, q) = true := ok.ok _ hin
      have HA : Hid (Asc (putM (delM l (g, p, q)) (f, p, q))) := asc_putM (asc_filter ok.asc _) (not_delM ok hin f)
      have hll : (putM (delM l (g, p, q)) (f, p, q)).length ≤ 5000 := by
        rw [putM_len]
        have h2 : (delM l (g, p, q)).length ≤ l.length := List.length_filter_le _ _
        omega
      clear hf hz hr hin
      go_enter Try.func31, Try.ntmps31
      go_wp2_with (first | (go_at_call 42; refine (isFrame_b _ _ d1 _).mono ?_; rintro e w' ⟨rfl, rfl⟩) | (go_at_call 43; refine (isPlace_b _ _ _ d2 _).mono ?_; rintro e w' ⟨rfl, rfl⟩) | (go_at_call 49; refine (sound_any A c l _ _ (HSV.out.ext (by repeat' (first | with_reducible exact Below.refl _ _ | with_reducible assumption | with_reducible apply Below.drew | with_reducible apply below_drewN | with_reducible apply Below.alloc | with_reducible apply Below.setCell | (with_reducible refine Below.trans ?_ (Below.mono (by assumption) ?_)) | (simp; done) | (simp; omega) | omega | with_reducible apply le_size_alloc | with_reducible apply le_size_drewN | with_reducible apply le_size_drew | with_reducible apply le_size_setCell | refine Nat.le_trans ?_ (Below.size (by assumption))))) la HZ.out).mono ?_; rintro e w1 ⟨rfl, hb1⟩; have bw1 : Below V.heap.size V w1 := (by repeat' (first | with_reducible exact Below.refl _ _ | with_reducible assumption | with_reducible apply Below.drew | with_reducible apply below_drewN | with_reducible apply Below.alloc | with_reducible apply Below.setCell | (with_reducible refine Below.trans ?_ (Below.mono (by assumption) ?_)) | (simp; done) | (simp; omega) | omega | with_reducible apply le_size_alloc | with_reducible apply le_size_drewN | with_reducible apply le_size_drew | with_reducible apply le_size_setCell | refine Nat.le_trans ?_ (Below.size (by assumption)))); have zw1 := bw1.size; have p0w1 := cell_keep bw1 p0 zV; have p1w1 := cell_keep bw1 p1 zV) | (go_at_call 50; refine (find_any A c l _ _ _ (HSV.out.ext bw1) la HF.out).mono ?_; rintro e w2 ⟨rfl, hb2⟩; dsimp only [findV]; have bw2 : Below V.heap.size V w2 := (by repeat' (first | with_reducible exact Below.refl _ _ | with_reducible assumption | with_reducible apply Below.drew | with_reducible apply below_drewN | with_reducible apply Below.alloc | with_reducible apply Below.setCell | (with_reducible refine Below.trans ?_ (Below.mono (by assumption) ?_)) | (simp; done) | (simp; omega) | omega | with_reducible apply le_size_alloc | with_reducible apply le_size_drewN | with_reducible apply le_size_drew | with_reducible apply le_size_setCell | refine Nat.le_trans ?_ (Below.size (by assumption)))); have zw2 := bw2.size; have p0w2 := cell_keep bw2 p0 zV; have p1w2 := cell_keep bw2 p1 zV) | (go_at_call 55; refine (gather_any A c l _ (HSV.out.ext bw2) la ok.ok).mono ?_; rintro e w3 ⟨B, rfl, hB3, hs3, hb3⟩; have bw3 : Below V.heap.size V w3 := (by repeat' (first | with_reducible exact Below.refl _ _ | with_reducible assumption | with_reducible apply Below.drew | with_reducible apply below_drewN | with_reducible apply Below.alloc | with_reducible apply Below.setCell | (with_reducible refine Below.trans ?_ (Below.mono (by assumption) ?_)) | (simp; done) | (simp; omega) | omega | with_reducible apply le_size_alloc | with_reducible apply le_size_drewN | with_reducible apply le_size_drew | with_reducible apply le_size_setCell | refine Nat.le_trans ?_ (Below.size (by assumption)))); have zw3 := bw3.size; have p0w3 := cell_keep bw3 p0 zV; have p1w3 := cell_keep bw3 p1 zV; have zB : B < w3.heap.size := hs3.lt) | (at_delete; refine wpList_delP _ rfl _ _ rfl B l.length l rfl hsw4 (g, p, q) hog rfl ?_; intro w5 hs5 hg5; have b5 : Below w2.heap.size w2 w5 := below_grown (hb3.trans (Below.mono (by repeat' (first | with_reducible exact Below.refl _ _ | with_reducible assumption | with_reducible apply Below.drew | with_reducible apply below_drewN | with_reducible apply Below.alloc | with_reducible apply Below.setCell | (with_reducible refine Below.trans ?_ (Below.mono (by assumption) ?_)) | (simp; done) | (simp; omega) | omega | with_reducible apply le_size_alloc | with_reducible apply le_size_drewN | with_reducible apply le_size_drew | with_reducible apply le_size_setCell | refine Nat.le_trans ?_ (Below.size (by assumption)))) hb3.size)) hg5 hB3; have b5V : Below V.heap.size V w5 := bw2.trans (b5.mono bw2.size); have z5 := b5V.size; have p05 := cell_keep b5V p0 zV; have p15 := cell_keep b5V p1 zV; have zB5 : B < w5.heap.size := hs5.lt) | (at_mapUpdate; refine wpList_putP _ rfl _ _ _ rfl B l.length (delM l (g, p, q)) rfl hsw6 (by omega) (f, p, q) hok rfl rfl ?_; intro w7 hs7 hg7; have b7 : Below w2.heap.size w2 w7 := below_grown (b5.trans (Below.mono (show Below w5.heap.size w5 w6 from (by repeat' (first | with_reducible exact Below.refl _ _ | with_reducible assumption | with_reducible apply Below.drew | with_reducible apply below_drewN | with_reducible apply Below.alloc | with_reducible apply Below.setCell | (with_reducible refine Below.trans ?_ (Below.mono (by assumption) ?_)) | (simp; done) | (simp; omega) | omega | with_reducible apply le_size_alloc | with_reducible apply le_size_drewN | with_reducible apply le_size_drew | with_reducible apply le_size_setCell | refine Nat.le_trans ?_ (Below.size (by assumption))))) b5.size)) hg7 hB3; have b7V : Below V.heap.size V w7 := bw2.trans (b7.mono bw2.size)) | (go_at_call 56; with_reducible refine (keyOf_c g p q hog _).mono ?_; rintro e w4 ⟨rfl, hbw4⟩; dsimp only [kvM]; have hsw4 := hs3.below_ (C := w3.heap.size) (w' := w4) (by repeat' (first | with_reducible exact Below.refl _ _ | with_reducible assumption | with_reducible apply Below.drew | with_reducible apply below_drewN | with_reducible apply Below.alloc | with_reducible apply Below.setCell | (with_reducible refine Below.trans ?_ (Below.mono (by assumption) ?_)) | (simp; done) | (simp; omega) | omega | with_reducible apply le_size_alloc | with_reducible apply le_size_drewN | with_reducible apply le_size_drew | with_reducible apply le_size_setCell | refine Nat.le_trans ?_ (Below.size (by assumption)))) (by first | assumption | omega); have zBw4 : B < w4.heap.size := hsw4.lt; have bw4 : Below V.heap.size V w4 := (by repeat' (first | with_reducible exact Below.refl _ _ | with_reducible assumption | with_reducible apply Below.drew | with_reducible apply below_drewN | with_reducible apply Below.alloc | with_reducible apply Below.setCell | (with_reducible refine Below.trans ?_ (Below.mono (by assumption) ?_)) | (simp; done) | (simp; omega) | omega | with_reducible apply le_size_alloc | with_reducible apply le_size_drewN | with_reducible apply le_size_drew | with_reducible apply le_size_setCell | refine Nat.le_trans ?_ (Below.size (by assumption)))); have zw4 := bw4.size; have p0w4 := cell_keep bw4 p0 zV; have p1w4 := cell_keep bw4 p1 zV) | (go_at_call 56; with_reducible refine (keyOf_c f p q hok _).mono ?_; rintro e w6 ⟨rfl, hbw6⟩; dsimp only [kvM]; have hsw6 := hs5.below_ (C := w5.heap.size) (w' := w6) (by repeat' (first | with_reducible exact Below.refl _ _ | with_reducible assumption | with_reducible apply Below.drew | with_reducible apply below_drewN | with_reducible apply Below.alloc | with_reducible apply Below.setCell | (with_reducible refine Below.trans ?_ (Below.mono (by assumption) ?_)) | (simp; done) | (simp; omega) | omega | with_reducible apply le_size_alloc | with_reducible apply le_size_drewN | with_reducible apply le_size_drew | with_reducible apply le_size_setCell | refine Nat.le_trans ?_ (Below.size (by assumption)))) (by first | assumption | omega); have zBw6 : B < w6.heap.size := hsw6.lt; have bw6 : Below V.heap.size V w6 := (by repeat' (first | with_reducible exact Below.refl _ _ | with_reducible assumption | with_reducible apply Below.drew | with_reducible apply below_drewN | with_reducible apply Below.alloc | with_reducible apply Below.setCell | (with_reducible refine Below.trans ?_ (Below.mono (by assumption) ?_)) | (simp; done) | (simp; omega) | omega | with_reducible apply le_size_alloc | with_reducible apply le_size_drewN | with_reducible apply le_size_drew | with_reducible apply le_size_setCell | refine Nat.le_trans ?_ (Below.size (by assumption)))); have zw6 := bw6.size; have p0w6 := cell_keep bw6 p0 zV; have p1w6 := cell_keep bw6 p1 zV) | (go_at_call 57; refine (list_any B (l.length + 1) ((f, p, q) :: delM l (g, p, q)) (putM (delM l (g, p, q)) (f, p, q)) _ hs7 (by omega) HA.out (fun m => by rw [mem_putM]; simp)).mono ?_; rintro e w8 ⟨A8, c8, rfl, hc8, hb8⟩; have b8 : Below V.heap.size V w8 := b7V.trans (hb8.mono b7V.size)) | (go_at_call 59; refine (count_any A8 c8 (putM (delM l (g, p, q)) (f, p, q)) g _ hc8.1 hll).mono ?_; rintro e w9 ⟨rfl, hb9⟩))
      refine bodyPost_ret (v := .tuple #[.slice A8 (putM (delM l (g, p, q)) (f, p, q)).length c8, .int .i64 (cntM (putM (delM l (g, p, q)) (f, p, q)) g), .int .i64 0]) (by simp [results, Try.results31, go_sem]) rfl ?_
      unfold MovPost
      rw [HR.out]
      exact ⟨A8, c8, rfl, hc8.ext hb9, BV.trans ((b8.trans (hb9.mono b8.size)).mono BV.size)⟩
end Go.Proofs.Ytbeddhamnefpiaa
