/- rmap.Remove, Of, Drop, Move. Written by gen_rmn.py. -/
import Derived.Test.YtbeddhamnefpiaaRmM
namespace Go.Proofs.Ytbeddhamnefpiaa
set_option linter.unusedSimpArgs false
set_option linter.unusedVariables false
open Go.RowKit Go.Maps

def RemPost (r : List M3 × Int × Int × Int) (w : World) (e : Ending) (w' : World) : Prop := ∃ A c, e = .returned (.tuple #[.slice A r.1.length c, .int .i64 r.2.1, .int .i64 r.2.2.1, .int .i64 r.2.2.2]) ∧ CR mapE w' A c r.1 ∧ Below w.heap.size w w'
theorem RemPost.bad {r : List M3 × Int × Int × Int} {z : Int} {w w' : World} (h : r = ([], 0, 0, z)) (hb : Below w.heap.size w w') : RemPost r w (.returned (.tuple #[.slice none 0 0, .int .i64 0, .int .i64 0, .int .i64 z])) w' := by
  subst h
  exact ⟨none, 0, rfl, CR.nil, hb⟩

set_option maxRecDepth 100000 in
set_option maxHeartbeats 2000000 in
theorem Remove_any (A : Option Addr) (c : Nat) (l : List M3) (p q : Int) (w : World) (ha : SR mapE w A l) (la : l.length ≤ 1000) :
    Calls Try.prog 29 #[.slice A l.length c, .agg #[.int .i64 p, .int .i64 q]] w (RemPost (remM l (p, q)) w) := by
  have HS := Lib.hid ha
  clear ha
  obtain ⟨V, hV⟩ : ∃ V, w.alloc (.cells #[.int .i64 p, .int .i64 q] 24) = V := ⟨_, rfl⟩
  have BV : Below w.heap.size w V := by rw [← hV]; exact (Below.refl _ w).alloc (Nat.le_refl _) _
  have kV : Blk V w.heap.size 24 #[.int .i64 p, .int .i64 q] := by rw [← hV]; exact Blk.new_ rfl rfl
  have zV : w.heap.size < V.heap.size := kV.lt
  have p0 : V.cell? ⟨w.heap.size, 0, none⟩ = some (.int .i64 p) := by simpa using kV.cell_ 0
  have p1 : V.cell? ⟨w.heap.size, 1, none⟩ = some (.int .i64 q) := by simpa using kV.cell_ 1
  have HSV := Lib.hid (HS.out.ext BV)
  rcases fndM_cases l (p, q) with ⟨y, hy, hz, hr⟩ | ⟨hz, ok, d2, ⟨hf, hr⟩ | ⟨f, hf, hr⟩⟩
  · have HR : Hid (remM l (p, q) = ([], 0, 0, y)) := by show _ = _; unfold remM; rw [hr, if_pos hy]
    have yb : (y != 0) = true := by simpa using hy
    have HF := Lib.hid hr
    clear hr hz
    go_enter Try.func29, Try.ntmps29
    go_wp2_with (first | (go_at_call 14; refine (Find_any A c l _ _ _ HSV.out la HF.out).mono ?_; rintro e w1 ⟨rfl, hb1⟩; have bw1 : Below V.heap.size V w1 := (by repeat' (first | with_reducible exact Below.refl _ _ | with_reducible assumption | with_reducible apply Below.drew | with_reducible apply below_drewN | with_reducible apply Below.alloc | with_reducible apply Below.setCell | (with_reducible refine Below.trans ?_ (Below.mono (by assumption) ?_)) | (simp; done) | (simp; omega) | omega | with_reducible apply le_size_alloc | with_reducible apply le_size_drewN | with_reducible apply le_size_drew | with_reducible apply le_size_setCell | refine Nat.le_trans ?_ (Below.size (by assumption)))); have zw1 := bw1.size; have p0w1 := cell_keep bw1 p0 zV; have p1w1 := cell_keep bw1 p1 zV))
    refine bodyPost_ret (v := .tuple #[.slice none 0 0, .int .i64 0, .int .i64 0, .int .i64 y]) (by simp [results, Try.results29, go_sem]) rfl ?_
    exact RemPost.bad HR.out (BV.trans (bw1.mono BV.size))
  · have HR : Hid (remM l (p, q) = ([], 0, 0, 6)) := by show _ = _; unfold remM; rw [hr, if_pos (by simp)]
    have HF := Lib.hid hr
    clear hr hz hf
    go_enter Try.func29, Try.ntmps29
    go_wp2_with (first | (go_at_call 14; refine (Find_any A c l _ _ _ HSV.out la HF.out).mono ?_; rintro e w1 ⟨rfl, hb1⟩; have bw1 : Below V.heap.size V w1 := (by repeat' (first | with_reducible exact Below.refl _ _ | with_reducible assumption | with_reducible apply Below.drew | with_reducible apply below_drewN | with_reducible apply Below.alloc | with_reducible apply Below.setCell | (with_reducible refine Below.trans ?_ (Below.mono (by assumption) ?_)) | (simp; done) | (simp; omega) | omega | with_reducible apply le_size_alloc | with_reducible apply le_size_drewN | with_reducible apply le_size_drew | with_reducible apply le_size_setCell | refine Nat.le_trans ?_ (Below.size (by assumption)))); have zw1 := bw1.size; have p0w1 := cell_keep bw1 p0 zV; have p1w1 := cell_keep bw1 p1 zV))
    refine bodyPost_ret (v := .tuple #[.slice none 0 0, .int .i64 0, .int .i64 0, .int .i64 6]) (by simp [results, Try.results29, go_sem]) rfl ?_
    exact RemPost.bad HR.out (BV.trans (bw1.mono BV.size))
  · have HR : Hid (remM l (p, q) = (delM l (f, p, q), f, cntM l f - 1, 0)) := by show _ = _; unfold remM; rw [hr, if_neg (by simp)]
    have HF := Lib.hid hr
    have hok : okM (f, p, q) = true := ok.ok _ (findM_some hf)
    have HA : Hid (Asc (delM l (f, p, q))) := asc_filter ok.asc _
    have hcn := cntM_le l f
    have hwr : IntKind.i64.wrap (cntM l f - 1) = cntM l f - 1 := IntWalk.i64_in _ (by omega)
    clear hr hz hf
    go_enter Try.func29, Try.ntmps29
    go_wp2_with (first | (go_at_call 14; refine (Find_any A c l _ _ _ HSV.out la HF.out).mono ?_; rintro e w1 ⟨rfl, hb1⟩; have bw1 : Below V.heap.size V w1 := (by repeat' (first | with_reducible exact Below.refl _ _ | with_reducible assumption | with_reducible apply Below.drew | with_reducible apply below_drewN | with_reducible apply Below.alloc | with_reducible apply Below.setCell | (with_reducible refine Below.trans ?_ (Below.mono (by assumption) ?_)) | (simp; done) | (simp; omega) | omega | with_reducible apply le_size_alloc | with_reducible apply le_size_drewN | with_reducible apply le_size_drew | with_reducible apply le_size_setCell | refine Nat.le_trans ?_ (Below.size (by assumption)))); have zw1 := bw1.size; have p0w1 := cell_keep bw1 p0 zV; have p1w1 := cell_keep bw1 p1 zV) | (go_at_call 55; refine (gather_any A c l _ (HSV.out.ext bw1) la ok.ok).mono ?_; rintro e w3 ⟨B, rfl, hB3, hs3, hb3⟩; have bw3 : Below V.heap.size V w3 := (by repeat' (first | with_reducible exact Below.refl _ _ | with_reducible assumption | with_reducible apply Below.drew | with_reducible apply below_drewN | with_reducible apply Below.alloc | with_reducible apply Below.setCell | (with_reducible refine Below.trans ?_ (Below.mono (by assumption) ?_)) | (simp; done) | (simp; omega) | omega | with_reducible apply le_size_alloc | with_reducible apply le_size_drewN | with_reducible apply le_size_drew | with_reducible apply le_size_setCell | refine Nat.le_trans ?_ (Below.size (by assumption)))); have zw3 := bw3.size; have p0w3 := cell_keep bw3 p0 zV; have p1w3 := cell_keep bw3 p1 zV; have zB : B < w3.heap.size := hs3.lt) | (go_at_call 56; refine (keyOf_any (f, p, q) hok _).mono ?_; rintro e w4 ⟨rfl, hbw4⟩; dsimp only [kvM]; have hsw4 := hs3.below_ (C := w3.heap.size) (w' := w4) (by repeat' (first | with_reducible exact Below.refl _ _ | with_reducible assumption | with_reducible apply Below.drew | with_reducible apply below_drewN | with_reducible apply Below.alloc | with_reducible apply Below.setCell | (with_reducible refine Below.trans ?_ (Below.mono (by assumption) ?_)) | (simp; done) | (simp; omega) | omega | with_reducible apply le_size_alloc | with_reducible apply le_size_drewN | with_reducible apply le_size_drew | with_reducible apply le_size_setCell | refine Nat.le_trans ?_ (Below.size (by assumption)))) (by first | assumption | omega); have zBw4 : B < w4.heap.size := hsw4.lt; have bw4 : Below V.heap.size V w4 := (by repeat' (first | with_reducible exact Below.refl _ _ | with_reducible assumption | with_reducible apply Below.drew | with_reducible apply below_drewN | with_reducible apply Below.alloc | with_reducible apply Below.setCell | (with_reducible refine Below.trans ?_ (Below.mono (by assumption) ?_)) | (simp; done) | (simp; omega) | omega | with_reducible apply le_size_alloc | with_reducible apply le_size_drewN | with_reducible apply le_size_drew | with_reducible apply le_size_setCell | refine Nat.le_trans ?_ (Below.size (by assumption)))); have zw4 := bw4.size; have p0w4 := cell_keep bw4 p0 zV; have p1w4 := cell_keep bw4 p1 zV) | (at_delete; refine wpList_delP _ rfl _ _ rfl B l.length l rfl hsw4 (f, p, q) hok rfl ?_; intro w5 hs5 hg5; have b5 : Below w1.heap.size w1 w5 := below_grown (hb3.trans (Below.mono (by repeat' (first | with_reducible exact Below.refl _ _ | with_reducible assumption | with_reducible apply Below.drew | with_reducible apply below_drewN | with_reducible apply Below.alloc | with_reducible apply Below.setCell | (with_reducible refine Below.trans ?_ (Below.mono (by assumption) ?_)) | (simp; done) | (simp; omega) | omega | with_reducible apply le_size_alloc | with_reducible apply le_size_drewN | with_reducible apply le_size_drew | with_reducible apply le_size_setCell | refine Nat.le_trans ?_ (Below.size (by assumption)))) hb3.size)) hg5 hB3; have b5V : Below V.heap.size V w5 := bw1.trans (b5.mono bw1.size)) | (go_at_call 57; refine (list_any B l.length (delM l (f, p, q)) (delM l (f, p, q)) _ hs5 (by omega) HA.out (fun m => Iff.rfl)).mono ?_; rintro e w6 ⟨A6, c6, rfl, hc6, hb6⟩; have b6 : Below V.heap.size V w6 := b5V.trans (hb6.mono b5V.size)) | (go_at_call 59; refine (count_any A c l f _ (HSV.out.ext b6) (by omega)).mono ?_; rintro e w7 ⟨rfl, hb7⟩))
    refine bodyPost_ret (v := .tuple #[.slice A6 (delM l (f, p, q)).length c6, .int .i64 f, .int .i64 (cntM l f - 1), .int .i64 0]) (by simp [results, Try.results29, go_sem]) rfl ?_
    unfold RemPost
    rw [HR.out]
    exact ⟨A6, c6, rfl, hc6.ext hb7, BV.trans ((b6.trans (hb7.mono b6.size)).mono BV.size)⟩

def OfPost (r : List (Int × Int) × Int) (w : World) (e : Ending) (w' : World) : Prop := ∃ A c, e = .returned (.tuple #[.slice A r.1.length c, .int .i64 r.2]) ∧ CR plE w' A c r.1 ∧ Below w.heap.size w w'
theorem OfPost.bad {r : List (Int × Int) × Int} {z : Int} {w w' : World} (h : r = ([], z)) (hb : Below w.heap.size w w') : OfPost r w (.returned (.tuple #[.slice none 0 0, .int .i64 z])) w' := by
  subst h
  exact ⟨none, 0, rfl, CR.nil, hb⟩
theorem plsM_snoc (l : List M3) (x : M3) (f : Int) : plsM (l ++ [x]) f = plsM l f ++ if x.1 = f then [x.2] else [] := by
  unfold plsM
  by_cases h : x.1 = f <;> simp [h]
theorem plsM_len (l : List M3) (f : Int) : (plsM l f).length ≤ l.length := by
  unfold plsM
  rw [List.length_map]
  exact List.length_filter_le _ _
theorem ofM_cases (l : List M3) (f : Int) : (∃ z, z ≠ 0 ∧ sndM l (okF f) = z ∧ ofM l f = ([], z)) ∨ (sndM l (okF f) = 0 ∧ OkL l ∧ okF f = true ∧ ofM l f = (plsM l f, 0)) := by
  by_cases z0 : sndM l (okF f) = 0
  · obtain ⟨hc, hok⟩ := sndM_zero z0
    exact .inr ⟨z0, chkM_ok hc, hok, by unfold ofM; rw [if_neg (by simpa using hc), if_pos hok]⟩
  · refine .inl ⟨_, z0, rfl, ?_⟩
    unfold ofM
    rcases sndM_ne rfl z0 with ⟨h1, h2⟩ | ⟨h1, h2, h3⟩
    · rw [if_pos h1, h2]
    · rw [h3, if_neg (by simpa using h1), h2]; rfl
set_option maxRecDepth 100000 in
set_option maxHeartbeats 2000000 in
theorem Of_any (A : Option Addr) (c : Nat) (l : List M3) (f : Int) (w : World) (ha : SR mapE w A l) (la : l.length ≤ 1000) :
    Calls Try.prog 16 #[.slice A l.length c, .int .i64 f] w (OfPost (ofM l f) w) := by
  have HS := Lib.hid ha
  clear ha
  obtain ⟨b, d1⟩ : ∃ b, okF f = b := ⟨_, rfl⟩
  have d1' : decide (0 ≤ f ∧ f < 256) = b := d1
  rcases ofM_cases l f with ⟨y, hy, hz, hr⟩ | ⟨hz, ok, hb, hr⟩
  · have HR := Lib.hid hr
    have yb : (y != 0) = true := by simpa using hy
    rw [d1] at hz
    have HZ := Lib.hid hz
    clear hz hr
    go_enter Try.func16, Try.ntmps16
    go_wp2_with (first | (go_at_call 42; refine (isFrame_b _ _ d1' _).mono ?_; rintro e w' ⟨rfl, rfl⟩) | (go_at_call 49; refine (sound_any A c l _ _ HS.out la HZ.out).mono ?_; rintro e w1 ⟨rfl, hb1⟩))
    refine bodyPost_ret (v := .tuple #[.slice none 0 0, .int .i64 y]) (by simp [results, Try.results16, go_sem]) rfl ?_
    exact OfPost.bad HR.out hb1
  · have HR := Lib.hid hr
    rw [hb] at d1
    subst d1
    rw [hb] at hz
    have HZ := Lib.hid hz
    clear hz hr hb
    go_enter Try.func16, Try.ntmps16
    go_wp2_with (first | (go_at_call 42; refine (isFrame_b _ _ d1' _).mono ?_; rintro e w' ⟨rfl, rfl⟩) | (go_at_call 49; refine (sound_any A c l _ _ HS.out la HZ.out).mono ?_; rintro e w1 ⟨rfl, hb1⟩))
    have hz1 := hb1.size
    go_loopw [7, 19] (fun v i wr => ∃ (k : Nat) (ys : List (Int × Int)) (A2 : Option Addr) (c2 : Nat), k ≤ l.length ∧ i = .int .i64 k ∧ v = .slice A2 ys.length c2 ∧ Hid (plsM (l.take k) f = ys) ∧ ys.length ≤ k ∧ CanR plE wr w.heap.size A2 c2 ys ∧ Below w.heap.size w wr) (fun _ i _ => l.length - (intOf i).toNat)
    case atStart => exact ⟨0, [], none, 0, by omega, rfl, rfl, by show _ = _; simp [plsM], by simp, .inl ⟨rfl, SR.nil⟩, hb1⟩
    case round =>
      obtain ⟨k, ys, A2, c2, hk, rfl, rfl, HY, hyl, hcan, hbw⟩ := hrel
      have zw := hbw.size
      by_cases hlt : k < l.length
      · obtain ⟨bb, off, x, rfl, hbl, hx, q0, q1, q2⟩ := map_at (HS.out.ext hbw) hlt
        have i1 : (k : Int) < l.length := by omega
        have HN : Hid (plsM (l.take (k + 1)) f = ys ++ if x.1 = f then [x.2] else []) := by
          show _ = _
          rw [take_snoc hx, plsM_snoc, HY.out]
        clear hx HY
        by_cases e : x.1 = f
        · have HM : Hid (plsM (l.take (k + 1)) f = ys ++ [x.2]) := by show _ = _; rw [HN.out, if_pos e]
          clear HN
          have eb : (x.1 == f) = true := by simpa using e
          clear e
          go_wp2_with (at_builtin; refine wpList_appR plE rfl (.tmp 27) (.tmp 30) _ rfl rfl _ w.heap.size (by simp; omega) A2 c2 _ ys rfl (hcan.ext ((((Below.refl _ wr).alloc (Nat.le_refl _) _).alloc (by simp) _))) (some ⟨wr.heap.size + 1, 0, none⟩) 1 1 [x.2] rfl (SR.of_blk (E := plE) (l := [x.2]) (t := 24) (Blk.new_ (by simp) rfl)) (by simp; omega) rfl rfl ?_; intro A5 c5 w5 hc5 hb5 _)
          go_roundw
          case rel => exact ⟨k + 1, ys ++ [x.2], A5, c5, by omega, by go_num, by simp, HM.out, by simp; omega, hc5, ((hbw.alloc zw _).alloc (by simp; omega) _).trans hb5⟩
          case measure => simp [intOf]; omega
        · have HM : Hid (plsM (l.take (k + 1)) f = ys) := by show _ = _; rw [HN.out, if_neg e]; simp
          clear HN
          have eb : (x.1 == f) = false := by simpa using e
          clear e
          go_wp2
          go_roundw
          case rel => exact ⟨k + 1, ys, A2, c2, by omega, by go_num, rfl, HM.out, by omega, hcan.ext ((Below.refl _ wr).alloc (Nat.le_refl _) _), hbw.alloc zw _⟩
          case measure => simp [intOf]; omega
      · have hd : l.take k = l := List.take_of_length_le (by omega)
        have h1 := HY.out
        rw [hd] at h1
        have HF := Lib.hid h1
        clear hd h1 HY
        go_wp2
        refine bodyPost_ret (v := .tuple #[.slice A2 ys.length c2, .int .i64 0]) (by simp [results, Try.results16, go_sem]) rfl ?_
        unfold OfPost
        rw [HR.out, HF.out]
        exact ⟨A2, c2, rfl, hcan.cr, hbw⟩
end Go.Proofs.Ytbeddhamnefpiaa
