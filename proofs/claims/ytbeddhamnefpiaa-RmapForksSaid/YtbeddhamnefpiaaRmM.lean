/- rmap.sound, Add, Find, Remove, Move. Written by gen_rmm.py. -/
import Derived.Test.YtbeddhamnefpiaaRmL
namespace Go.Proofs.Ytbeddhamnefpiaa
set_option linter.unusedSimpArgs false
set_option linter.unusedVariables false
open Go.RowKit Go.Maps

def sndM (l : List M3) (b : Bool) : Int := if (chkM l).1 ≠ 0 then (chkM l).1 else if b then 0 else 2
theorem sndM_zero {l : List M3} {b : Bool} (h : sndM l b = 0) : (chkM l).1 = 0 ∧ b = true := by
  unfold sndM at h
  by_cases h0 : (chkM l).1 ≠ 0
  · rw [if_pos h0] at h; exact absurd h h0
  · rw [if_neg h0] at h
    cases b with
    | true => exact ⟨by simpa using h0, rfl⟩
    | false => simp at h
theorem sndM_ne {l : List M3} {b : Bool} {z : Int} (h : sndM l b = z) (hz : z ≠ 0) : ((chkM l).1 ≠ 0 ∧ (chkM l).1 = z) ∨ ((chkM l).1 = 0 ∧ b = false ∧ z = 2) := by
  unfold sndM at h
  by_cases h0 : (chkM l).1 ≠ 0
  · rw [if_pos h0] at h; exact .inl ⟨h0, h⟩
  · rw [if_neg h0] at h
    cases b with
    | true => exact absurd h.symm (by simpa using hz)
    | false => exact .inr ⟨by simpa using h0, rfl, h.symm⟩
set_option maxHeartbeats 1000000 in
theorem sound_any (A : Option Addr) (c : Nat) (l : List M3) (b : Bool) (w : World) (ha : SR mapE w A l) (la : l.length ≤ 1000) {z : Int} (h : sndM l b = z) :
    Calls Try.prog 49 #[.slice A l.length c, .bool b] w fun e w' => e = .returned (.int .i64 z) ∧ Below w.heap.size w w' := by
  have HS := Lib.hid ha
  clear ha
  obtain ⟨⟨y, n⟩, hk⟩ : ∃ r, chkM l = r := ⟨_, rfl⟩
  have HK := Lib.hid hk
  by_cases hy : y = 0
  · subst hy
    have HZ : Hid ((if b then 0 else 2) = z) := by
      have h0 : sndM l b = if b then 0 else 2 := by unfold sndM; rw [hk]; simp
      show _ = _
      rw [← h, h0]
    clear hk h
    cases b
    all_goals
      go_enter Try.func49, Try.ntmps49
      go_wp2_with (first | (go_at_call 12; refine (Check_any _ _ _ _ HS.out la HK.out).mono ?_; rintro e w1 ⟨rfl, hb1⟩))
      go_ret
      exact ⟨ret_int (by have := HZ.out; simpa using this), hb1⟩
  · have HZ : Hid (y = z) := by show _ = _; rw [← h]; unfold sndM; rw [hk, if_pos hy]
    have hyb : (y != 0) = true := by simpa using hy
    clear hk h
    go_enter Try.func49, Try.ntmps49
    go_wp2_with (first | (go_at_call 12; refine (Check_any _ _ _ _ HS.out la HK.out).mono ?_; rintro e w1 ⟨rfl, hb1⟩))
    go_ret
    exact ⟨ret_int HZ.out, hb1⟩

/-- What hands back a list and an error. -/
def LePost (r : List M3 × Int) (w : World) (e : Ending) (w' : World) : Prop := ∃ A c, e = .returned (.tuple #[.slice A r.1.length c, .int .i64 r.2]) ∧ CR mapE w' A c r.1 ∧ Below w.heap.size w w'
theorem LePost.bad {r : List M3 × Int} {z : Int} {w w' : World} (h : r = ([], z)) (hb : Below w.heap.size w w') : LePost r w (.returned (.tuple #[.slice none 0 0, .int .i64 z])) w' := by
  subst h
  exact ⟨none, 0, rfl, CR.nil, hb⟩

set_option maxRecDepth 100000 in
set_option maxHeartbeats 2000000 in
theorem Add_any (A : Option Addr) (c : Nat) (l : List M3) (f p q : Int) (w : World) (ha : SR mapE w A l) (la : l.length ≤ 1000) :
    Calls Try.prog 27 #[.slice A l.length c, .int .i64 f, .agg #[.int .i64 p, .int .i64 q]] w (LePost (addM l f (p, q)) w) := by
  have HS := Lib.hid ha
  clear ha
  obtain ⟨V, hV⟩ : ∃ V, w.alloc (.cells #[.int .i64 p, .int .i64 q] 24) = V := ⟨_, rfl⟩
  have BV : Below w.heap.size w V := by rw [← hV]; exact (Below.refl _ w).alloc (Nat.le_refl _) _
  have kV : Blk V w.heap.size 24 #[.int .i64 p, .int .i64 q] := by rw [← hV]; exact Blk.new_ rfl rfl
  have zV : w.heap.size < V.heap.size := kV.lt
  have p0 : V.cell? ⟨w.heap.size, 0, none⟩ = some (.int .i64 p) := by simpa using kV.cell_ 0
  have p1 : V.cell? ⟨w.heap.size, 1, none⟩ = some (.int .i64 q) := by simpa using kV.cell_ 1
  have HSV := Lib.hid (HS.out.ext BV)
  obtain ⟨z, hz⟩ : ∃ z, sndM l (okM (f, p, q)) = z := ⟨_, rfl⟩
  by_cases z0 : z = 0
  · subst z0
    obtain ⟨hc, hok⟩ := sndM_zero hz
    have ok := chkM_ok hc
    have HZ : Hid (sndM l true = 0) := by show _ = _; rw [← hz, hok]
    have hh : decide (0 ≤ f ∧ f < 256) = true ∧ okP (p, q) = true := by
      have := hok
      unfold okM at this
      rwa [Bool.and_eq_true] at this
    obtain ⟨d1, d2⟩ := hh
    cases hf : findM l (p, q) with
    | some g =>
      have HR : Hid (addM l f (p, q) = ([], 7)) := by show _ = _; unfold addM; rw [if_neg (by simpa using hc), if_pos hok, hf]; rfl
      have HF := Lib.hid hf
      clear hf hz hc hok ok
      go_enter Try.func27, Try.ntmps27
      go_wp2_with (first | (go_at_call 42; refine (isFrame_b _ _ d1 _).mono ?_; rintro e w' ⟨rfl, rfl⟩) | (go_at_call 43; refine (isPlace_b _ _ _ d2 _).mono ?_; rintro e w' ⟨rfl, rfl⟩) | (go_at_call 49; refine (sound_any A c l _ _ (HSV.out.ext (by repeat' (first | with_reducible exact Below.refl _ _ | with_reducible assumption | with_reducible apply Below.drew | with_reducible apply below_drewN | with_reducible apply Below.alloc | with_reducible apply Below.setCell | (with_reducible refine Below.trans ?_ (Below.mono (by assumption) ?_)) | (simp; done) | (simp; omega) | omega | with_reducible apply le_size_alloc | with_reducible apply le_size_drewN | with_reducible apply le_size_drew | with_reducible apply le_size_setCell | refine Nat.le_trans ?_ (Below.size (by assumption))))) la HZ.out).mono ?_; rintro e w1 ⟨rfl, hb1⟩; have bw1 : Below V.heap.size V w1 := (by repeat' (first | with_reducible exact Below.refl _ _ | with_reducible assumption | with_reducible apply Below.drew | with_reducible apply below_drewN | with_reducible apply Below.alloc | with_reducible apply Below.setCell | (with_reducible refine Below.trans ?_ (Below.mono (by assumption) ?_)) | (simp; done) | (simp; omega) | omega | with_reducible apply le_size_alloc | with_reducible apply le_size_drewN | with_reducible apply le_size_drew | with_reducible apply le_size_setCell | refine Nat.le_trans ?_ (Below.size (by assumption)))); have zw1 := bw1.size; have p0w1 := cell_keep bw1 p0 zV; have p1w1 := cell_keep bw1 p1 zV) | (go_at_call 50; refine (find_any A c l _ _ _ (HSV.out.ext bw1) la HF.out).mono ?_; rintro e w2 ⟨rfl, hb2⟩; dsimp only [findV]; have bw2 : Below V.heap.size V w2 := (by repeat' (first | with_reducible exact Below.refl _ _ | with_reducible assumption | with_reducible apply Below.drew | with_reducible apply below_drewN | with_reducible apply Below.alloc | with_reducible apply Below.setCell | (with_reducible refine Below.trans ?_ (Below.mono (by assumption) ?_)) | (simp; done) | (simp; omega) | omega | with_reducible apply le_size_alloc | with_reducible apply le_size_drewN | with_reducible apply le_size_drew | with_reducible apply le_size_setCell | refine Nat.le_trans ?_ (Below.size (by assumption)))); have zw2 := bw2.size; have p0w2 := cell_keep bw2 p0 zV; have p1w2 := cell_keep bw2 p1 zV))
      refine bodyPost_ret (v := .tuple #[.slice none 0 0, .int .i64 7]) (by simp [results, Try.results27, go_sem]) rfl ?_
      exact LePost.bad HR.out (BV.trans (bw2.mono BV.size))
    | none =>
      have HR : Hid (addM l f (p, q) = (putM l (f, p, q), 0)) := by show _ = _; unfold addM; rw [if_neg (by simpa using hc), if_pos hok, hf]; rfl
      have HF := Lib.hid hf
      have HA : Hid (Asc (putM l (f, p, q))) := asc_putM ok.asc (fun h => findM_no hf _ h rfl)
      clear hf hz hc
      go_enter Try.func27, Try.ntmps27
      go_wp2_with (first | (go_at_call 42; refine (isFrame_b _ _ d1 _).mono ?_; rintro e w' ⟨rfl, rfl⟩) | (go_at_call 43; refine (isPlace_b _ _ _ d2 _).mono ?_; rintro e w' ⟨rfl, rfl⟩) | (go_at_call 49; refine (sound_any A c l _ _ (HSV.out.ext (by repeat' (first | with_reducible exact Below.refl _ _ | with_reducible assumption | with_reducible apply Below.drew | with_reducible apply below_drewN | with_reducible apply Below.alloc | with_reducible apply Below.setCell | (with_reducible refine Below.trans ?_ (Below.mono (by assumption) ?_)) | (simp; done) | (simp; omega) | omega | with_reducible apply le_size_alloc | with_reducible apply le_size_drewN | with_reducible apply le_size_drew | with_reducible apply le_size_setCell | refine Nat.le_trans ?_ (Below.size (by assumption))))) la HZ.out).mono ?_; rintro e w1 ⟨rfl, hb1⟩; have bw1 : Below V.heap.size V w1 := (by repeat' (first | with_reducible exact Below.refl _ _ | with_reducible assumption | with_reducible apply Below.drew | with_reducible apply below_drewN | with_reducible apply Below.alloc | with_reducible apply Below.setCell | (with_reducible refine Below.trans ?_ (Below.mono (by assumption) ?_)) | (simp; done) | (simp; omega) | omega | with_reducible apply le_size_alloc | with_reducible apply le_size_drewN | with_reducible apply le_size_drew | with_reducible apply le_size_setCell | refine Nat.le_trans ?_ (Below.size (by assumption)))); have zw1 := bw1.size; have p0w1 := cell_keep bw1 p0 zV; have p1w1 := cell_keep bw1 p1 zV) | (go_at_call 50; refine (find_any A c l _ _ _ (HSV.out.ext bw1) la HF.out).mono ?_; rintro e w2 ⟨rfl, hb2⟩; dsimp only [findV]; have bw2 : Below V.heap.size V w2 := (by repeat' (first | with_reducible exact Below.refl _ _ | with_reducible assumption | with_reducible apply Below.drew | with_reducible apply below_drewN | with_reducible apply Below.alloc | with_reducible apply Below.setCell | (with_reducible refine Below.trans ?_ (Below.mono (by assumption) ?_)) | (simp; done) | (simp; omega) | omega | with_reducible apply le_size_alloc | with_reducible apply le_size_drewN | with_reducible apply le_size_drew | with_reducible apply le_size_setCell | refine Nat.le_trans ?_ (Below.size (by assumption)))); have zw2 := bw2.size; have p0w2 := cell_keep bw2 p0 zV; have p1w2 := cell_keep bw2 p1 zV) | (go_at_call 55; refine (gather_any A c l _ (HSV.out.ext bw2) la ok.ok).mono ?_; rintro e w3 ⟨B, rfl, hB3, hs3, hb3⟩; have bw3 : Below V.heap.size V w3 := (by repeat' (first | with_reducible exact Below.refl _ _ | with_reducible assumption | with_reducible apply Below.drew | with_reducible apply below_drewN | with_reducible apply Below.alloc | with_reducible apply Below.setCell | (with_reducible refine Below.trans ?_ (Below.mono (by assumption) ?_)) | (simp; done) | (simp; omega) | omega | with_reducible apply le_size_alloc | with_reducible apply le_size_drewN | with_reducible apply le_size_drew | with_reducible apply le_size_setCell | refine Nat.le_trans ?_ (Below.size (by assumption)))); have zw3 := bw3.size; have p0w3 := cell_keep bw3 p0 zV; have p1w3 := cell_keep bw3 p1 zV; have zB : B < w3.heap.size := hs3.lt) | (go_at_call 56; refine (keyOf_any (f, p, q) hok _).mono ?_; rintro e w4 ⟨rfl, hb4⟩; dsimp only [kvM]; have hs4 : SetP w4 B l.length l := hs3.below_ (C := w3.heap.size) (by repeat' (first | with_reducible exact Below.refl _ _ | with_reducible assumption | with_reducible apply Below.drew | with_reducible apply below_drewN | with_reducible apply Below.alloc | with_reducible apply Below.setCell | (with_reducible refine Below.trans ?_ (Below.mono (by assumption) ?_)) | (simp; done) | (simp; omega) | omega | with_reducible apply le_size_alloc | with_reducible apply le_size_drewN | with_reducible apply le_size_drew | with_reducible apply le_size_setCell | refine Nat.le_trans ?_ (Below.size (by assumption)))) zB; have zB4 : B < w4.heap.size := hs4.lt; have bw4 : Below V.heap.size V w4 := (by repeat' (first | with_reducible exact Below.refl _ _ | with_reducible assumption | with_reducible apply Below.drew | with_reducible apply below_drewN | with_reducible apply Below.alloc | with_reducible apply Below.setCell | (with_reducible refine Below.trans ?_ (Below.mono (by assumption) ?_)) | (simp; done) | (simp; omega) | omega | with_reducible apply le_size_alloc | with_reducible apply le_size_drewN | with_reducible apply le_size_drew | with_reducible apply le_size_setCell | refine Nat.le_trans ?_ (Below.size (by assumption)))); have zw4 := bw4.size; have p0w4 := cell_keep bw4 p0 zV; have p1w4 := cell_keep bw4 p1 zV) | (at_mapUpdate; refine wpList_putP _ rfl _ _ _ rfl B l.length l rfl hs4 (by omega) (f, p, q) hok rfl rfl ?_; intro w5 hs5 hg5; have b5 : Below w2.heap.size w2 w5 := below_grown (hb3.trans (Below.mono (by repeat' (first | with_reducible exact Below.refl _ _ | with_reducible assumption | with_reducible apply Below.drew | with_reducible apply below_drewN | with_reducible apply Below.alloc | with_reducible apply Below.setCell | (with_reducible refine Below.trans ?_ (Below.mono (by assumption) ?_)) | (simp; done) | (simp; omega) | omega | with_reducible apply le_size_alloc | with_reducible apply le_size_drewN | with_reducible apply le_size_drew | with_reducible apply le_size_setCell | refine Nat.le_trans ?_ (Below.size (by assumption)))) hb3.size)) hg5 hB3) | (go_at_call 57; refine (list_any B (l.length + 1) ((f, p, q) :: l) (putM l (f, p, q)) _ hs5 (by omega) HA.out (fun m => by rw [mem_putM]; simp)).mono ?_; rintro e w6 ⟨A6, c6, rfl, hc6, hb6⟩))
      refine bodyPost_ret (v := .tuple #[.slice A6 (putM l (f, p, q)).length c6, .int .i64 0]) (by simp [results, Try.results27, go_sem]) rfl ?_
      unfold LePost
      rw [HR.out]
      exact ⟨A6, c6, rfl, hc6, (BV.trans (bw2.mono BV.size)).trans ((b5.trans (hb6.mono b5.size)).mono (by omega))⟩
  · have HR : Hid (addM l f (p, q) = ([], z)) := by
      show _ = _
      unfold addM
      rcases sndM_ne hz z0 with ⟨h1, h2⟩ | ⟨h1, h2, h3⟩
      · rw [if_pos h1, h2]
      · rw [if_neg (by simpa using h1), h2, h3]; rfl
    have zb : (z != 0) = true := by simpa using z0
    cases d1 : decide (0 ≤ f ∧ f < 256) with
    | false =>
      have HZ : Hid (sndM l false = z) := by show _ = _; rw [← hz]; congr 1; simp [okM, d1]
      clear hz
      go_enter Try.func27, Try.ntmps27
      go_wp2_with (first | (go_at_call 42; refine (isFrame_b _ _ d1 _).mono ?_; rintro e w' ⟨rfl, rfl⟩) | (go_at_call 49; refine (sound_any A c l _ _ (HSV.out.ext (by repeat' (first | with_reducible exact Below.refl _ _ | with_reducible assumption | with_reducible apply Below.drew | with_reducible apply below_drewN | with_reducible apply Below.alloc | with_reducible apply Below.setCell | (with_reducible refine Below.trans ?_ (Below.mono (by assumption) ?_)) | (simp; done) | (simp; omega) | omega | with_reducible apply le_size_alloc | with_reducible apply le_size_drewN | with_reducible apply le_size_drew | with_reducible apply le_size_setCell | refine Nat.le_trans ?_ (Below.size (by assumption))))) la HZ.out).mono ?_; rintro e w1 ⟨rfl, hb1⟩; have bw1 : Below V.heap.size V w1 := (by repeat' (first | with_reducible exact Below.refl _ _ | with_reducible assumption | with_reducible apply Below.drew | with_reducible apply below_drewN | with_reducible apply Below.alloc | with_reducible apply Below.setCell | (with_reducible refine Below.trans ?_ (Below.mono (by assumption) ?_)) | (simp; done) | (simp; omega) | omega | with_reducible apply le_size_alloc | with_reducible apply le_size_drewN | with_reducible apply le_size_drew | with_reducible apply le_size_setCell | refine Nat.le_trans ?_ (Below.size (by assumption)))); have zw1 := bw1.size; have p0w1 := cell_keep bw1 p0 zV; have p1w1 := cell_keep bw1 p1 zV))
      refine bodyPost_ret (v := .tuple #[.slice none 0 0, .int .i64 z]) (by simp [results, Try.results27, go_sem]) rfl ?_
      exact LePost.bad HR.out (BV.trans (bw1.mono BV.size))
    | true =>
      cases d2 : okP (p, q)
      all_goals
        have HZ := Lib.hid hz
        simp only [okM, d1, d2, Bool.and_true, Bool.and_false] at HZ
        clear hz
        go_enter Try.func27, Try.ntmps27
        go_wp2_with (first | (go_at_call 42; refine (isFrame_b _ _ d1 _).mono ?_; rintro e w' ⟨rfl, rfl⟩) | (go_at_call 43; refine (isPlace_b _ _ _ d2 _).mono ?_; rintro e w' ⟨rfl, rfl⟩) | (go_at_call 49; refine (sound_any A c l _ _ (HSV.out.ext (by repeat' (first | with_reducible exact Below.refl _ _ | with_reducible assumption | with_reducible apply Below.drew | with_reducible apply below_drewN | with_reducible apply Below.alloc | with_reducible apply Below.setCell | (with_reducible refine Below.trans ?_ (Below.mono (by assumption) ?_)) | (simp; done) | (simp; omega) | omega | with_reducible apply le_size_alloc | with_reducible apply le_size_drewN | with_reducible apply le_size_drew | with_reducible apply le_size_setCell | refine Nat.le_trans ?_ (Below.size (by assumption))))) la HZ.out).mono ?_; rintro e w1 ⟨rfl, hb1⟩; have bw1 : Below V.heap.size V w1 := (by repeat' (first | with_reducible exact Below.refl _ _ | with_reducible assumption | with_reducible apply Below.drew | with_reducible apply below_drewN | with_reducible apply Below.alloc | with_reducible apply Below.setCell | (with_reducible refine Below.trans ?_ (Below.mono (by assumption) ?_)) | (simp; done) | (simp; omega) | omega | with_reducible apply le_size_alloc | with_reducible apply le_size_drewN | with_reducible apply le_size_drew | with_reducible apply le_size_setCell | refine Nat.le_trans ?_ (Below.size (by assumption)))); have zw1 := bw1.size; have p0w1 := cell_keep bw1 p0 zV; have p1w1 := cell_keep bw1 p1 zV))
        refine bodyPost_ret (v := .tuple #[.slice none 0 0, .int .i64 z]) (by simp [results, Try.results27, go_sem]) rfl ?_
        exact LePost.bad HR.out (BV.trans (bw1.mono BV.size))

theorem fndM_cases (l : List M3) (p : Int × Int) : (∃ z, z ≠ 0 ∧ sndM l (okP p) = z ∧ fndM l p = (0, z)) ∨ (sndM l (okP p) = 0 ∧ OkL l ∧ okP p = true ∧ ((findM l p = none ∧ fndM l p = (0, 6)) ∨ ∃ f, findM l p = some f ∧ fndM l p = (f, 0))) := by
  by_cases z0 : sndM l (okP p) = 0
  · obtain ⟨hc, hok⟩ := sndM_zero z0
    refine .inr ⟨z0, chkM_ok hc, hok, ?_⟩
    cases hf : findM l p with
    | none => exact .inl ⟨rfl, by unfold fndM; rw [if_neg (by simpa using hc), if_pos hok, hf]⟩
    | some f => exact .inr ⟨f, rfl, by unfold fndM; rw [if_neg (by simpa using hc), if_pos hok, hf]⟩
  · refine .inl ⟨_, z0, rfl, ?_⟩
    unfold fndM
    rcases sndM_ne rfl z0 with ⟨h1, h2⟩ | ⟨h1, h2, h3⟩
    · rw [if_pos h1, h2]
    · rw [h3, if_neg (by simpa using h1), h2]; rfl
set_option maxRecDepth 100000 in
set_option maxHeartbeats 2000000 in
theorem Find_any (A : Option Addr) (c : Nat) (l : List M3) (p q : Int) (w : World) (ha : SR mapE w A l) (la : l.length ≤ 1000) {f z : Int} (h : fndM l (p, q) = (f, z)) :
    Calls Try.prog 14 #[.slice A l.length c, .agg #[.int .i64 p, .int .i64 q]] w fun e w' => e = .returned (.tuple #[.int .i64 f, .int .i64 z]) ∧ Below w.heap.size w w' := by
  have HS := Lib.hid ha
  clear ha
  obtain ⟨V, hV⟩ : ∃ V, w.alloc (.cells #[.int .i64 p, .int .i64 q] 24) = V := ⟨_, rfl⟩
  have BV : Below w.heap.size w V := by rw [← hV]; exact (Below.refl _ w).alloc (Nat.le_refl _) _
  have kV : Blk V w.heap.size 24 #[.int .i64 p, .int .i64 q] := by rw [← hV]; exact Blk.new_ rfl rfl
  have zV : w.heap.size < V.heap.size := kV.lt
  have p0 : V.cell? ⟨w.heap.size, 0, none⟩ = some (.int .i64 p) := by simpa using kV.cell_ 0
  have p1 : V.cell? ⟨w.heap.size, 1, none⟩ = some (.int .i64 q) := by simpa using kV.cell_ 1
  have HSV := Lib.hid (HS.out.ext BV)
  rcases fndM_cases l (p, q) with ⟨y, hy, hz, hr⟩ | ⟨hz, ok, d2, ⟨hf, hr⟩ | ⟨g, hf, hr⟩⟩
  · rw [hr] at h
    obtain ⟨rfl, rfl⟩ := Prod.mk.inj h
    have yb : (y != 0) = true := by simpa using hy
    obtain ⟨b, d2⟩ : ∃ b, okP (p, q) = b := ⟨_, rfl⟩
    rw [d2] at hz
    have HZ := Lib.hid hz
    clear hz hr h
    go_enter Try.func14, Try.ntmps14
    go_wp2_with (first | (go_at_call 43; refine (isPlace_b _ _ _ d2 _).mono ?_; rintro e w' ⟨rfl, rfl⟩) | (go_at_call 49; refine (sound_any A c l _ _ (HSV.out.ext (by repeat' (first | with_reducible exact Below.refl _ _ | with_reducible assumption | with_reducible apply Below.drew | with_reducible apply below_drewN | with_reducible apply Below.alloc | with_reducible apply Below.setCell | (with_reducible refine Below.trans ?_ (Below.mono (by assumption) ?_)) | (simp; done) | (simp; omega) | omega | with_reducible apply le_size_alloc | with_reducible apply le_size_drewN | with_reducible apply le_size_drew | with_reducible apply le_size_setCell | refine Nat.le_trans ?_ (Below.size (by assumption))))) la HZ.out).mono ?_; rintro e w1 ⟨rfl, hb1⟩; have bw1 : Below V.heap.size V w1 := (by repeat' (first | with_reducible exact Below.refl _ _ | with_reducible assumption | with_reducible apply Below.drew | with_reducible apply below_drewN | with_reducible apply Below.alloc | with_reducible apply Below.setCell | (with_reducible refine Below.trans ?_ (Below.mono (by assumption) ?_)) | (simp; done) | (simp; omega) | omega | with_reducible apply le_size_alloc | with_reducible apply le_size_drewN | with_reducible apply le_size_drew | with_reducible apply le_size_setCell | refine Nat.le_trans ?_ (Below.size (by assumption)))); have zw1 := bw1.size; have p0w1 := cell_keep bw1 p0 zV; have p1w1 := cell_keep bw1 p1 zV))
    refine bodyPost_ret (v := .tuple #[.int .i64 0, .int .i64 y]) (by simp [results, Try.results14, go_sem]) rfl ?_
    exact ⟨rfl, BV.trans (bw1.mono BV.size)⟩
  · rw [hr] at h
    obtain ⟨rfl, rfl⟩ := Prod.mk.inj h
    rw [d2] at hz
    have HZ := Lib.hid hz
    have HF := Lib.hid hf
    clear hz hr h hf
    go_enter Try.func14, Try.ntmps14
    go_wp2_with (first | (go_at_call 43; refine (isPlace_b _ _ _ d2 _).mono ?_; rintro e w' ⟨rfl, rfl⟩) | (go_at_call 49; refine (sound_any A c l _ _ (HSV.out.ext (by repeat' (first | with_reducible exact Below.refl _ _ | with_reducible assumption | with_reducible apply Below.drew | with_reducible apply below_drewN | with_reducible apply Below.alloc | with_reducible apply Below.setCell | (with_reducible refine Below.trans ?_ (Below.mono (by assumption) ?_)) | (simp; done) | (simp; omega) | omega | with_reducible apply le_size_alloc | with_reducible apply le_size_drewN | with_reducible apply le_size_drew | with_reducible apply le_size_setCell | refine Nat.le_trans ?_ (Below.size (by assumption))))) la HZ.out).mono ?_; rintro e w1 ⟨rfl, hb1⟩; have bw1 : Below V.heap.size V w1 := (by repeat' (first | with_reducible exact Below.refl _ _ | with_reducible assumption | with_reducible apply Below.drew | with_reducible apply below_drewN | with_reducible apply Below.alloc | with_reducible apply Below.setCell | (with_reducible refine Below.trans ?_ (Below.mono (by assumption) ?_)) | (simp; done) | (simp; omega) | omega | with_reducible apply le_size_alloc | with_reducible apply le_size_drewN | with_reducible apply le_size_drew | with_reducible apply le_size_setCell | refine Nat.le_trans ?_ (Below.size (by assumption)))); have zw1 := bw1.size; have p0w1 := cell_keep bw1 p0 zV; have p1w1 := cell_keep bw1 p1 zV) | (go_at_call 50; refine (find_any A c l _ _ _ (HSV.out.ext bw1) la HF.out).mono ?_; rintro e w2 ⟨rfl, hb2⟩; dsimp only [findV]; have bw2 : Below V.heap.size V w2 := (by repeat' (first | with_reducible exact Below.refl _ _ | with_reducible assumption | with_reducible apply Below.drew | with_reducible apply below_drewN | with_reducible apply Below.alloc | with_reducible apply Below.setCell | (with_reducible refine Below.trans ?_ (Below.mono (by assumption) ?_)) | (simp; done) | (simp; omega) | omega | with_reducible apply le_size_alloc | with_reducible apply le_size_drewN | with_reducible apply le_size_drew | with_reducible apply le_size_setCell | refine Nat.le_trans ?_ (Below.size (by assumption)))); have zw2 := bw2.size; have p0w2 := cell_keep bw2 p0 zV; have p1w2 := cell_keep bw2 p1 zV))
    refine bodyPost_ret (v := .tuple #[.int .i64 0, .int .i64 6]) (by simp [results, Try.results14, go_sem]) rfl ?_
    exact ⟨rfl, BV.trans (bw2.mono BV.size)⟩
  · rw [hr] at h
    obtain ⟨rfl, rfl⟩ := Prod.mk.inj h
    rw [d2] at hz
    have HZ := Lib.hid hz
    have HF := Lib.hid hf
    clear hz hr h hf
    go_enter Try.func14, Try.ntmps14
    go_wp2_with (first | (go_at_call 43; refine (isPlace_b _ _ _ d2 _).mono ?_; rintro e w' ⟨rfl, rfl⟩) | (go_at_call 49; refine (sound_any A c l _ _ (HSV.out.ext (by repeat' (first | with_reducible exact Below.refl _ _ | with_reducible assumption | with_reducible apply Below.drew | with_reducible apply below_drewN | with_reducible apply Below.alloc | with_reducible apply Below.setCell | (with_reducible refine Below.trans ?_ (Below.mono (by assumption) ?_)) | (simp; done) | (simp; omega) | omega | with_reducible apply le_size_alloc | with_reducible apply le_size_drewN | with_reducible apply le_size_drew | with_reducible apply le_size_setCell | refine Nat.le_trans ?_ (Below.size (by assumption))))) la HZ.out).mono ?_; rintro e w1 ⟨rfl, hb1⟩; have bw1 : Below V.heap.size V w1 := (by repeat' (first | with_reducible exact Below.refl _ _ | with_reducible assumption | with_reducible apply Below.drew | with_reducible apply below_drewN | with_reducible apply Below.alloc | with_reducible apply Below.setCell | (with_reducible refine Below.trans ?_ (Below.mono (by assumption) ?_)) | (simp; done) | (simp; omega) | omega | with_reducible apply le_size_alloc | with_reducible apply le_size_drewN | with_reducible apply le_size_drew | with_reducible apply le_size_setCell | refine Nat.le_trans ?_ (Below.size (by assumption)))); have zw1 := bw1.size; have p0w1 := cell_keep bw1 p0 zV; have p1w1 := cell_keep bw1 p1 zV) | (go_at_call 50; refine (find_any A c l _ _ _ (HSV.out.ext bw1) la HF.out).mono ?_; rintro e w2 ⟨rfl, hb2⟩; dsimp only [findV]; have bw2 : Below V.heap.size V w2 := (by repeat' (first | with_reducible exact Below.refl _ _ | with_reducible assumption | with_reducible apply Below.drew | with_reducible apply below_drewN | with_reducible apply Below.alloc | with_reducible apply Below.setCell | (with_reducible refine Below.trans ?_ (Below.mono (by assumption) ?_)) | (simp; done) | (simp; omega) | omega | with_reducible apply le_size_alloc | with_reducible apply le_size_drewN | with_reducible apply le_size_drew | with_reducible apply le_size_setCell | refine Nat.le_trans ?_ (Below.size (by assumption)))); have zw2 := bw2.size; have p0w2 := cell_keep bw2 p0 zV; have p1w2 := cell_keep bw2 p1 zV))
    refine bodyPost_ret (v := .tuple #[.int .i64 g, .int .i64 0]) (by simp [results, Try.results14, go_sem]) rfl ?_
    exact ⟨rfl, BV.trans (bw2.mono BV.size)⟩
end Go.Proofs.Ytbeddhamnefpiaa
