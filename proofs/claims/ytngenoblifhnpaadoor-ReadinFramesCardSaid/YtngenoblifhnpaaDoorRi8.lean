/- Contracts of package readin: after (a claimed write that is complete). Written by gen_ri6.py. -/
import Derived.Test.YtngenoblifhnpaaDoorRi7
namespace Go.Proofs.YtngenoblifhnpaaDoor
open Go.RowKit Go.Maps

set_option maxRecDepth 100000 in
set_option maxHeartbeats 4000000 in
theorem after_claimed (s f g n : Int) (w : World) (hs : s = 4) :
    Calls Tryd.prog 37 #[.agg #[.int .i64 s, .int .i64 f, .int .i64 g], .int .i64 4, .int .i64 n] w (AftPost (aftR (s, f, g) 4 n) w) := by
  have HF : Hid (aftR (s, f, g) 4 n = ((5, g, -1), thereF [f], g)) := by show _ = _; simp [aftR, hs]
  have hsb : (s == 4) = true := by simpa using hs
  have HS4 := Lib.hid hs
  clear hs
  go_enter Tryd.func37, Tryd.ntmps37
  go_wp2_with fail
  obtain ⟨V, hV⟩ : ∃ V, ((w.alloc (.cells #[.int .i64 s, .int .i64 f, .int .i64 g] 23)).alloc (.cells #[.int .i64 0, .int .i64 0, .int .i64 0] 23)).alloc (.cells #[.int .i64 s, .int .i64 f, .int .i64 (-1)] 23) = V := ⟨_, rfl⟩
  have BV : Below w.heap.size w V := by rw [← hV]; exact (by repeat' (first | with_reducible exact Below.refl _ _ | with_reducible assumption | with_reducible apply Below.drew | with_reducible apply below_drewN | with_reducible apply Below.alloc | with_reducible apply Below.setCell | (with_reducible refine Below.trans ?_ (Below.mono (by assumption) ?_)) | (simp; done) | (simp; omega) | omega | with_reducible apply le_size_alloc | with_reducible apply le_size_drewN | with_reducible apply le_size_drew | with_reducible apply le_size_setCell | refine Nat.le_trans ?_ (Below.size (by assumption))))
  have k0 : Blk V w.heap.size 23 #[.int .i64 s, .int .i64 f, .int .i64 g] := by rw [← hV]; exact (by repeat' (first | with_reducible assumption | (with_reducible refine Blk.new_ ?_ ?_ <;> first | (simp; done) | rfl) | with_reducible apply Blk.drew_ | with_reducible apply Blk.drewN_ | with_reducible apply Blk.alloc_ | with_reducible refine Blk.far_ ?_ ?_ _ | (with_reducible refine Blk.below_ ?_ (by assumption) ?_) | (simp; done) | (simp; omega) | omega | with_reducible apply le_size_alloc | with_reducible apply lt_size_alloc | with_reducible apply le_size_drewN | with_reducible apply le_size_drew | with_reducible apply le_size_setCell | refine Nat.lt_of_lt_of_le ?_ (Below.size (by assumption)) | refine Nat.le_trans ?_ (Below.size (by assumption))))
  have k1 : Blk V (w.heap.size + 1) 23 #[.int .i64 0, .int .i64 0, .int .i64 0] := by rw [← hV]; exact (by repeat' (first | with_reducible assumption | (with_reducible refine Blk.new_ ?_ ?_ <;> first | (simp; done) | rfl) | with_reducible apply Blk.drew_ | with_reducible apply Blk.drewN_ | with_reducible apply Blk.alloc_ | with_reducible refine Blk.far_ ?_ ?_ _ | (with_reducible refine Blk.below_ ?_ (by assumption) ?_) | (simp; done) | (simp; omega) | omega | with_reducible apply le_size_alloc | with_reducible apply lt_size_alloc | with_reducible apply le_size_drewN | with_reducible apply le_size_drew | with_reducible apply le_size_setCell | refine Nat.lt_of_lt_of_le ?_ (Below.size (by assumption)) | refine Nat.le_trans ?_ (Below.size (by assumption))))
  have k2 : Blk V (w.heap.size + 2) 23 #[.int .i64 s, .int .i64 f, .int .i64 (-1)] := by rw [← hV]; exact (by repeat' (first | with_reducible assumption | (with_reducible refine Blk.new_ ?_ ?_ <;> first | (simp; done) | rfl) | with_reducible apply Blk.drew_ | with_reducible apply Blk.drewN_ | with_reducible apply Blk.alloc_ | with_reducible refine Blk.far_ ?_ ?_ _ | (with_reducible refine Blk.below_ ?_ (by assumption) ?_) | (simp; done) | (simp; omega) | omega | with_reducible apply le_size_alloc | with_reducible apply lt_size_alloc | with_reducible apply le_size_drewN | with_reducible apply le_size_drew | with_reducible apply le_size_setCell | refine Nat.lt_of_lt_of_le ?_ (Below.size (by assumption)) | refine Nat.le_trans ?_ (Below.size (by assumption))))
  have hVs : V.heap.size = w.heap.size + 3 := by rw [← hV]; simp
  have z0 : w.heap.size < V.heap.size := by omega
  have z2 : w.heap.size + 2 < V.heap.size := by omega
  rw [hV]
  clear hV
  have c0 : V.cell? ⟨w.heap.size, 0, none⟩ = some (.int .i64 s) := (k0.cell_ 0).trans (by simp)
  have c1 : V.cell? ⟨w.heap.size, 1, none⟩ = some (.int .i64 f) := (k0.cell_ 1).trans (by simp)
  have c2 : V.cell? ⟨w.heap.size, 2, none⟩ = some (.int .i64 g) := (k0.cell_ 2).trans (by simp)
  have d0 : V.cell? ⟨w.heap.size + 2, 0, none⟩ = some (.int .i64 s) := (k2.cell_ 0).trans (by simp)
  have d1 : V.cell? ⟨w.heap.size + 2, 1, none⟩ = some (.int .i64 f) := (k2.cell_ 1).trans (by simp)
  have d2 : V.cell? ⟨w.heap.size + 2, 2, none⟩ = some (.int .i64 (-1)) := (k2.cell_ 2).trans (by simp)
  have g0 := k2.frozen_ 0
  have g1 := k2.frozen_ 1
  refine wp_region_held_drew (S := (fun W => W.cell? ⟨w.heap.size, 2, none⟩ = some (.int .i64 g))) (by kernel_rfl) ?_ (fun hHeld => ?_)
  · first | (show World.cell? (World.setCell (World.setCell V _ _) _ _) _ = _; rw [World.cell?_setCell_other _ _ _ _ (by intro e; injection e with e1 e2; omega), World.cell?_setCell_other _ _ _ _ (by intro e; injection e with e1 e2; omega)]; assumption) | (show World.cell? (World.setCell V _ _) _ = _; rw [World.cell?_setCell_other _ _ _ _ (by intro e; injection e with e1 e2; omega)]; assumption) | (show World.cell? V _ = _; assumption)
  refine wpAnyH_take (i := 0) (oi := ?oie0) (v := ?ve0) ?hie0 (by kernel_rfl) (by kernel_rfl) (by kernel_rfl) ?hQe0 ?hye0 (by assumption) ?reste0
  case hie0 => (simp only [List.getElem?_toArray, List.getElem?_cons_succ, List.getElem?_cons_zero]; rfl)
  case hQe0 => exact fun _ _ _ h => h
  case hye0 => (refine Or.inl ⟨by rfl, ?_⟩; intro w hSw; (try dsimp only at hSw); go_simp; first | done | with_reducible rfl)
  (try simp only [Act.put, List.setIfInBounds_toArray, List.set_cons_zero, List.set_cons_succ])
  refine wpAnyH_take (i := 1) (oi := ?oie1) (v := ?ve1) ?hie1 (by kernel_rfl) (by kernel_rfl) (by kernel_rfl) ?hQe1 ?hye1 (by assumption) ?reste1
  case hie1 => (simp only [List.getElem?_toArray, List.getElem?_cons_succ, List.getElem?_cons_zero]; rfl)
  case hQe1 => exact fun _ _ _ h => h
  case hye1 => (refine Or.inl ⟨by rfl, ?_⟩; intro w hSw; (try dsimp only at hSw); go_simp; first | done | with_reducible rfl)
  (try simp only [Act.put, List.setIfInBounds_toArray, List.set_cons_zero, List.set_cons_succ])
  refine wpAnyH_take (i := 2) (oi := ?oie2) (v := ?ve2) ?hie2 (by kernel_rfl) (by kernel_rfl) (by kernel_rfl) ?hQe2 ?hye2 (by assumption) ?reste2
  case hie2 => (simp only [List.getElem?_toArray, List.getElem?_cons_succ, List.getElem?_cons_zero]; rfl)
  case hQe2 => exact fun _ _ _ h => h
  case hye2 => (refine Or.inl ⟨by rfl, ?_⟩; intro w hSw; (try dsimp only at hSw); go_simp; first | done | with_reducible rfl)
  (try simp only [Act.put, List.setIfInBounds_toArray, List.set_cons_zero, List.set_cons_succ])
  refine wpAnyH_ready (rs := [3]) (by kernel_rfl) (by simp) ?_
  refine AllReadyH.cons (o := ?oie3) ?hie3 (fun K hK => ?stepe3) AllReadyH.nil
  case hie3 => (simp only [List.getElem?_toArray, List.getElem?_cons_succ, List.getElem?_cons_zero]; rfl)
  go_simp
  refine hK.out _ _ ?_ (fun hHeld => ?_)
  · first | (show World.cell? (World.setCell (World.setCell V _ _) _ _) _ = _; rw [World.cell?_setCell_other _ _ _ _ (by intro e; injection e with e1 e2; omega), World.cell?_setCell_other _ _ _ _ (by intro e; injection e with e1 e2; omega)]; assumption) | (show World.cell? (World.setCell V _ _) _ = _; rw [World.cell?_setCell_other _ _ _ _ (by intro e; injection e with e1 e2; omega)]; assumption) | (show World.cell? V _ = _; assumption)
  clear hK K
  (try simp only [Act.put, List.setIfInBounds_toArray, List.set_cons_zero, List.set_cons_succ])
  refine wpAnyH_take (i := 4) (oi := ?oie4) (v := ?ve4) ?hie4 (by kernel_rfl) (by kernel_rfl) (by kernel_rfl) ?hQe4 ?hye4 (by assumption) ?reste4
  case hie4 => (simp only [List.getElem?_toArray, List.getElem?_cons_succ, List.getElem?_cons_zero]; rfl)
  case hQe4 => exact fun _ _ _ h => h
  case hye4 => (refine Or.inl ⟨by rfl, ?_⟩; intro w hSw; (try dsimp only at hSw); go_simp; first | done | with_reducible rfl)
  (try simp only [Act.put, List.setIfInBounds_toArray, List.set_cons_zero, List.set_cons_succ])
  refine wpAnyH_ready (rs := [5]) (by kernel_rfl) (by simp) ?_
  refine AllReadyH.cons (o := ?oie5) ?hie5 (fun K hK => ?stepe5) AllReadyH.nil
  case hie5 => (simp only [List.getElem?_toArray, List.getElem?_cons_succ, List.getElem?_cons_zero]; rfl)
  go_simp
  refine hK.out _ _ ?_ (fun hHeld => ?_)
  · first | (show World.cell? (World.setCell (World.setCell V _ _) _ _) _ = _; rw [World.cell?_setCell_other _ _ _ _ (by intro e; injection e with e1 e2; omega), World.cell?_setCell_other _ _ _ _ (by intro e; injection e with e1 e2; omega)]; assumption) | (show World.cell? (World.setCell V _ _) _ = _; rw [World.cell?_setCell_other _ _ _ _ (by intro e; injection e with e1 e2; omega)]; assumption) | (show World.cell? V _ = _; assumption)
  clear hK K
  (try simp only [Act.put, List.setIfInBounds_toArray, List.set_cons_zero, List.set_cons_succ])
  refine wpAnyH_done (by kernel_rfl) ?_ _
  go_wp2_with fail
  obtain ⟨V2, hV2⟩ : ∃ V2, (World.setCell (World.setCell V ⟨w.heap.size + 1 + 1, 0, none⟩ (.int .i64 5)) ⟨w.heap.size + 1 + 1, 1, none⟩ (.int .i64 g)).drew = V2 := ⟨_, rfl⟩
  have BV2 : Below w.heap.size w V2 := by rw [← hV2]; exact (by repeat' (first | with_reducible exact Below.refl _ _ | with_reducible assumption | with_reducible apply Below.drew | with_reducible apply below_drewN | with_reducible apply Below.alloc | with_reducible apply Below.setCell | (with_reducible refine Below.trans ?_ (Below.mono (by assumption) ?_)) | (simp; done) | (simp; omega) | omega | with_reducible apply le_size_alloc | with_reducible apply le_size_drewN | with_reducible apply le_size_drew | with_reducible apply le_size_setCell | refine Nat.le_trans ?_ (Below.size (by assumption))))
  have j0 : Blk V2 w.heap.size 23 #[.int .i64 s, .int .i64 f, .int .i64 g] := by rw [← hV2]; exact ((k0.far_ (p := ⟨w.heap.size + 1 + 1, 0, none⟩) (by show w.heap.size ≠ w.heap.size + 1 + 1; omega) _).far_ (p := ⟨w.heap.size + 1 + 1, 1, none⟩) (by show w.heap.size ≠ w.heap.size + 1 + 1; omega) _).drew_
  have j1 : Blk V2 (w.heap.size + 1) 23 #[.int .i64 0, .int .i64 0, .int .i64 0] := by rw [← hV2]; exact ((k1.far_ (p := ⟨w.heap.size + 1 + 1, 0, none⟩) (by show w.heap.size + 1 ≠ w.heap.size + 1 + 1; omega) _).far_ (p := ⟨w.heap.size + 1 + 1, 1, none⟩) (by show w.heap.size + 1 ≠ w.heap.size + 1 + 1; omega) _).drew_
  have j2 : Blk V2 (w.heap.size + 2) 23 #[.int .i64 5, .int .i64 g, .int .i64 (-1)] := by rw [← hV2]; exact ((k2.set_ 0 (.int .i64 5)).set_ 1 (.int .i64 g)).drew_
  have hVs2 : V2.heap.size = w.heap.size + 3 := by rw [← hV2]; simpa [World.setCell] using hVs
  rw [hV2]
  clear hV2 c0 c1 c2 d0 d1 d2 g0 g1 z0 z2
  have BV := BV2
  have k0 := j0
  have k1 := j1
  have k2 := j2
  have hVs := hVs2
  clear BV2 j0 j1 j2 hVs2
  have z0 : w.heap.size < V2.heap.size := by omega
  have z2 : w.heap.size + 2 < V2.heap.size := by omega
  have c0 : V2.cell? ⟨w.heap.size, 0, none⟩ = some (.int .i64 s) := (k0.cell_ 0).trans (by simp)
  have c1 : V2.cell? ⟨w.heap.size, 1, none⟩ = some (.int .i64 f) := (k0.cell_ 1).trans (by simp)
  have c2 : V2.cell? ⟨w.heap.size, 2, none⟩ = some (.int .i64 g) := (k0.cell_ 2).trans (by simp)
  have d0 : V2.cell? ⟨w.heap.size + 2, 0, none⟩ = some (.int .i64 5) := (k2.cell_ 0).trans (by simp)
  have d1 : V2.cell? ⟨w.heap.size + 2, 1, none⟩ = some (.int .i64 g) := (k2.cell_ 1).trans (by simp)
  have d2 : V2.cell? ⟨w.heap.size + 2, 2, none⟩ = some (.int .i64 (-1)) := (k2.cell_ 2).trans (by simp)
  refine wp_region_held_drew (S := (fun W => W.cell? ⟨w.heap.size, 0, none⟩ = some (.int .i64 s) ∧ W.cell? ⟨w.heap.size, 1, none⟩ = some (.int .i64 f) ∧ W.cell? ⟨w.heap.size, 2, none⟩ = some (.int .i64 g) ∧ W.cell? ⟨w.heap.size + 2, 0, none⟩ = some (.int .i64 5) ∧ W.cell? ⟨w.heap.size + 2, 1, none⟩ = some (.int .i64 g) ∧ W.cell? ⟨w.heap.size + 2, 2, none⟩ = some (.int .i64 (-1)))) (by kernel_rfl) ?_ (fun hHeld => ?_)
  · (refine ⟨?_, ?_, ?_, ?_, ?_, ?_⟩ <;> first | (rw [World.cell?_setCell_other _ _ _ _ (by intro e; injection e with e1 e2; omega), World.cell?_setCell_other _ _ _ _ (by intro e; injection e with e1 e2; omega), World.cell?_setCell_other _ _ _ _ (by intro e; injection e with e1 e2; omega)]; refine cell_keep (B := V2.heap.size) (a := V2) hb3' (by assumption) (by assumption)) | (refine cell_keep (B := V2.heap.size) (a := V2) (by repeat' (first | with_reducible exact Below.refl _ _ | with_reducible assumption | with_reducible apply Below.drew | with_reducible apply below_drewN | with_reducible apply Below.alloc | with_reducible apply Below.setCell | (with_reducible refine Below.trans ?_ (Below.mono (by assumption) ?_)) | (simp; done) | (simp; omega) | omega | with_reducible apply le_size_alloc | with_reducible apply le_size_drewN | with_reducible apply le_size_drew | with_reducible apply le_size_setCell | refine Nat.le_trans ?_ (Below.size (by assumption)))) (by assumption) (by assumption)))
  refine wpAnyH_take (i := 0) (oi := ?oif0) (v := ?vf0) ?hif0 (by kernel_rfl) (by kernel_rfl) (by kernel_rfl) ?hQf0 ?hyf0 (by assumption) ?restf0
  case hif0 => (simp only [List.getElem?_toArray, List.getElem?_cons_succ, List.getElem?_cons_zero]; rfl)
  case hQf0 => exact fun _ _ _ h => h
  case hyf0 => (refine Or.inl ⟨by rfl, ?_⟩; intro w hSw; (try dsimp only at hSw); go_simp; first | done | with_reducible rfl)
  (try simp only [Act.put, List.setIfInBounds_toArray, List.set_cons_zero, List.set_cons_succ])
  refine wpAnyH_take (i := 1) (oi := ?oif1) (v := ?vf1) ?hif1 (by kernel_rfl) (by kernel_rfl) (by kernel_rfl) ?hQf1 ?hyf1 (by assumption) ?restf1
  case hif1 => (simp only [List.getElem?_toArray, List.getElem?_cons_succ, List.getElem?_cons_zero]; rfl)
  case hQf1 => exact fun _ _ _ h => h
  case hyf1 => (refine Or.inl ⟨by rfl, ?_⟩; intro w hSw; (try dsimp only at hSw); go_simp; first | done | with_reducible rfl)
  (try simp only [Act.put, List.setIfInBounds_toArray, List.set_cons_zero, List.set_cons_succ])
  refine wpAnyH_take (i := 4) (oi := ?oif4) (v := ?vf4) ?hif4 (by kernel_rfl) (by kernel_rfl) (by kernel_rfl) ?hQf4 ?hyf4 (by assumption) ?restf4
  case hif4 => (simp only [List.getElem?_toArray, List.getElem?_cons_succ, List.getElem?_cons_zero]; rfl)
  case hQf4 => exact fun _ _ _ h => h
  case hyf4 => (refine Or.inl ⟨by rfl, ?_⟩; intro w hSw; (try dsimp only at hSw); go_simp; first | done | with_reducible rfl)
  (try simp only [Act.put, List.setIfInBounds_toArray, List.set_cons_zero, List.set_cons_succ])
  refine wpAnyH_take (i := 5) (oi := ?oif5) (v := ?vf5) ?hif5 (by kernel_rfl) (by kernel_rfl) (by kernel_rfl) ?hQf5 ?hyf5 (by assumption) ?restf5
  case hif5 => (simp only [List.getElem?_toArray, List.getElem?_cons_succ, List.getElem?_cons_zero]; rfl)
  case hQf5 => exact fun _ _ _ h => h
  case hyf5 => (refine Or.inl ⟨by rfl, ?_⟩; intro w hSw; (try dsimp only at hSw); go_simp; first | done | with_reducible rfl)
  (try simp only [Act.put, List.setIfInBounds_toArray, List.set_cons_zero, List.set_cons_succ])
  refine wpAnyH_ready (rs := [2]) (by kernel_rfl) (by simp) ?_
  refine AllReadyH.cons (o := ?oif2) ?hif2 (fun K hK => ?stepf2) AllReadyH.nil
  case hif2 => (simp only [List.getElem?_toArray, List.getElem?_cons_succ, List.getElem?_cons_zero]; rfl)
  go_simp
  refine hK.out _ _ ?_ (fun hHeld => ?_)
  · (refine ⟨?_, ?_, ?_, ?_, ?_, ?_⟩ <;> first | (rw [World.cell?_setCell_other _ _ _ _ (by intro e; injection e with e1 e2; omega), World.cell?_setCell_other _ _ _ _ (by intro e; injection e with e1 e2; omega), World.cell?_setCell_other _ _ _ _ (by intro e; injection e with e1 e2; omega)]; refine cell_keep (B := V2.heap.size) (a := V2) hb3' (by assumption) (by assumption)) | (refine cell_keep (B := V2.heap.size) (a := V2) (by repeat' (first | with_reducible exact Below.refl _ _ | with_reducible assumption | with_reducible apply Below.drew | with_reducible apply below_drewN | with_reducible apply Below.alloc | with_reducible apply Below.setCell | (with_reducible refine Below.trans ?_ (Below.mono (by assumption) ?_)) | (simp; done) | (simp; omega) | omega | with_reducible apply le_size_alloc | with_reducible apply le_size_drewN | with_reducible apply le_size_drew | with_reducible apply le_size_setCell | refine Nat.le_trans ?_ (Below.size (by assumption)))) (by assumption) (by assumption)))
  clear hK K
  (try simp only [Act.put, List.setIfInBounds_toArray, List.set_cons_zero, List.set_cons_succ])
  refine wpAnyH_ready (rs := [3]) (by kernel_rfl) (by simp) ?_
  refine AllReadyH.cons (o := ?oif3) ?hif3 (fun K hK => ?stepf3) AllReadyH.nil
  case hif3 => (simp only [List.getElem?_toArray, List.getElem?_cons_succ, List.getElem?_cons_zero]; rfl)
  go_simp
  refine (freed_any s f g _ 1 [false] _ (sl_false (t := 72) ?_) (by simp)).mono ?_
  · exact Blk.drew_ (Blk.new_ (by rw [hVs]) rfl)
  rintro e w3 ⟨A3, c3, rfl, ho3, hb3⟩
  have hb3' : Below V2.heap.size V2 w3 := (by repeat' (first | with_reducible exact Below.refl _ _ | with_reducible assumption | with_reducible apply Below.drew | with_reducible apply below_drewN | with_reducible apply Below.alloc | with_reducible apply Below.setCell | (with_reducible refine Below.trans ?_ (Below.mono (by assumption) ?_)) | (simp; done) | (simp; omega) | omega | with_reducible apply le_size_alloc | with_reducible apply le_size_drewN | with_reducible apply le_size_drew | with_reducible apply le_size_setCell | refine Nat.le_trans ?_ (Below.size (by assumption))))
  have q1 := k1.below_ hb3' (by omega)
  have y0 : w3.cell? ⟨w.heap.size + 1, 0, none⟩ = some (.int .i64 0) := (q1.cell_ 0).trans (by simp)
  have y1 : w3.cell? ⟨w.heap.size + 1, 1, none⟩ = some (.int .i64 0) := (q1.cell_ 1).trans (by simp)
  have y2 : w3.cell? ⟨w.heap.size + 1, 2, none⟩ = some (.int .i64 0) := (q1.cell_ 2).trans (by simp)
  have f0 := q1.frozen_ 0
  have f1 := q1.frozen_ 1
  have f2 := q1.frozen_ 2
  go_wp2_with fail
  refine hK.out _ _ ?_ (fun hHeld => ?_)
  · (refine ⟨?_, ?_, ?_, ?_, ?_, ?_⟩ <;> first | (rw [World.cell?_setCell_other _ _ _ _ (by intro e; injection e with e1 e2; omega), World.cell?_setCell_other _ _ _ _ (by intro e; injection e with e1 e2; omega), World.cell?_setCell_other _ _ _ _ (by intro e; injection e with e1 e2; omega)]; refine cell_keep (B := V2.heap.size) (a := V2) hb3' (by assumption) (by assumption)) | (refine cell_keep (B := V2.heap.size) (a := V2) (by repeat' (first | with_reducible exact Below.refl _ _ | with_reducible assumption | with_reducible apply Below.drew | with_reducible apply below_drewN | with_reducible apply Below.alloc | with_reducible apply Below.setCell | (with_reducible refine Below.trans ?_ (Below.mono (by assumption) ?_)) | (simp; done) | (simp; omega) | omega | with_reducible apply le_size_alloc | with_reducible apply le_size_drewN | with_reducible apply le_size_drew | with_reducible apply le_size_setCell | refine Nat.le_trans ?_ (Below.size (by assumption)))) (by assumption) (by assumption)))
  clear hK K
  (try simp only [Act.put, List.setIfInBounds_toArray, List.set_cons_zero, List.set_cons_succ])
  refine wpAnyH_ready (rs := [6]) (by kernel_rfl) (by simp) ?_
  refine AllReadyH.cons (o := ?oif6) ?hif6 (fun K hK => ?stepf6) AllReadyH.nil
  case hif6 => (simp only [List.getElem?_toArray, List.getElem?_cons_succ, List.getElem?_cons_zero]; rfl)
  go_simp
  refine hK.out _ _ ?_ (fun hHeld => ?_)
  · (refine ⟨?_, ?_, ?_, ?_, ?_, ?_⟩ <;> first | (rw [World.cell?_setCell_other _ _ _ _ (by intro e; injection e with e1 e2; omega), World.cell?_setCell_other _ _ _ _ (by intro e; injection e with e1 e2; omega), World.cell?_setCell_other _ _ _ _ (by intro e; injection e with e1 e2; omega)]; refine cell_keep (B := V2.heap.size) (a := V2) hb3' (by assumption) (by assumption)) | (refine cell_keep (B := V2.heap.size) (a := V2) (by repeat' (first | with_reducible exact Below.refl _ _ | with_reducible assumption | with_reducible apply Below.drew | with_reducible apply below_drewN | with_reducible apply Below.alloc | with_reducible apply Below.setCell | (with_reducible refine Below.trans ?_ (Below.mono (by assumption) ?_)) | (simp; done) | (simp; omega) | omega | with_reducible apply le_size_alloc | with_reducible apply le_size_drewN | with_reducible apply le_size_drew | with_reducible apply le_size_setCell | refine Nat.le_trans ?_ (Below.size (by assumption)))) (by assumption) (by assumption)))
  clear hK K
  (try simp only [Act.put, List.setIfInBounds_toArray, List.set_cons_zero, List.set_cons_succ])
  refine wpAnyH_take (i := 7) (oi := ?oif7) (v := ?vf7) ?hif7 (by kernel_rfl) (by kernel_rfl) (by kernel_rfl) ?hQf7 ?hyf7 (by assumption) ?restf7
  case hif7 => (simp only [List.getElem?_toArray, List.getElem?_cons_succ, List.getElem?_cons_zero]; rfl)
  case hQf7 => exact fun _ _ _ h => h
  case hyf7 => (refine Or.inl ⟨by rfl, ?_⟩; intro w hSw; (try dsimp only at hSw); go_simp; first | done | with_reducible rfl)
  (try simp only [Act.put, List.setIfInBounds_toArray, List.set_cons_zero, List.set_cons_succ])
  refine wpAnyH_take (i := 8) (oi := ?oif8) (v := ?vf8) ?hif8 (by kernel_rfl) (by kernel_rfl) (by kernel_rfl) ?hQf8 ?hyf8 (by assumption) ?restf8
  case hif8 => (simp only [List.getElem?_toArray, List.getElem?_cons_succ, List.getElem?_cons_zero]; rfl)
  case hQf8 => exact fun _ _ _ h => h
  case hyf8 => (refine Or.inl ⟨by rfl, ?_⟩; intro w hSw; (try dsimp only at hSw); go_simp; first | done | with_reducible rfl)
  (try simp only [Act.put, List.setIfInBounds_toArray, List.set_cons_zero, List.set_cons_succ])
  refine wpAnyH_done (by kernel_rfl) ?_ _
  have hlt : w.heap.size + 1 < w3.heap.size := by have := hb3'.size; omega
  obtain ⟨r0, r1, r2⟩ := cells3 y0 y1 y2 (.int .i64 5) (.int .i64 g) (.int .i64 (-1))
  have hO := ((ho3.far' (g := w.heap.size + 1) 0 (.int .i64 5) (by show _ < (World.alloc V2 _).heap.size + 1; simp; omega)).far' (g := w.heap.size + 1) 1 (.int .i64 g) (by show _ < (World.alloc V2 _).heap.size + 1; simp; omega)).far' (g := w.heap.size + 1) 2 (.int .i64 (-1)) (by show _ < (World.alloc V2 _).heap.size + 1; simp; omega)
  have hbl : Below w.heap.size w w3 := BV.trans (hb3'.mono BV.size)
  have HH := Lib.hid (And.intro (hO.iwn (B := w.heap.size) (by show _ ≤ (World.alloc V2 _).heap.size + 1; simp; omega)) (((hbl.setCell (p := ⟨w.heap.size + 1, 0, none⟩) (show w.heap.size ≤ w.heap.size + 1 by omega) (.int .i64 5)).setCell (p := ⟨w.heap.size + 1, 1, none⟩) (show w.heap.size ≤ w.heap.size + 1 by omega) (.int .i64 g)).setCell (p := ⟨w.heap.size + 1, 2, none⟩) (show w.heap.size ≤ w.heap.size + 1 by omega) (.int .i64 (-1))))
  clear hO hbl
  go_wp2_with fail
  refine bodyPost_ret (v := .tuple #[.agg #[.int .i64 5, .int .i64 g, .int .i64 (-1)], .slice A3 (thereF [whI f g false]).length c3, .int .i64 g]) (by simp [results, Tryd.results37, go_sem, r0, r1, r2]) rfl ?_
  unfold AftPost
  rw [HF.out]
  exact ⟨A3, c3, rfl, HH.out.1, HH.out.2⟩
end Go.Proofs.YtngenoblifhnpaaDoor
