/- headgatelaw34: config, three, victim, yields, awake. Written by gen_ow2.py. No statement is proved here. -/
import Derived.Test.YtmbpjafiinfkkaaGreatDoorOW1
import Derived.Test.YtmbpjafiinfkkaaGreatDoorOM2
import Derived.Test.YtmbpjafiinfkkaaGreatDoorOY2
import Derived.Test.YtmbpjafiinfkkaaGreatDoorOK
import Derived.Test.YtmbpjafiinfkkaaGreatDoorOT3
import Derived.Test.YtmbpjafiinfkkaaGreatDoorKitS
namespace Go.Proofs.YtmbpjafiinfkkaaGreatDoor
set_option linter.unusedSimpArgs false
set_option linter.unusedVariables false
open Go.RowKit Go.Maps

/-- proc at a literal of texts. -/
theorem proc_lit (ts : List Txt) (w : World) (hal : AL w) (h1 : ts.length ≤ 64) : Calls Tryz.prog 29 #[.slice (some ⟨w.heap.size, 0, none⟩) ts.length ts.length] (w.alloc (.cells (ts.map fun t => .string t.s).toArray 9)) fun e w' => e = .returned (.agg (pvC (prcT ts)).toArray) ∧ Below w.heap.size w w' :=
  (proc_any _ _ ts _ (hal.ext ((Below.refl _ _).alloc (Nat.le_refl _) _)) (Sl.of_lit (Blk.new_ rfl rfl)) h1).mono fun e w' h => ⟨h.1, ((Below.refl _ _).alloc (Nat.le_refl _) _).trans (h.2.mono (by simp))⟩
theorem proc_none (w : World) (hal : AL w) : Calls Tryz.prog 29 #[.slice none 0 0] w fun e w' => e = .returned (.agg (pvC pv0).toArray) ∧ Below w.heap.size w w' :=
  (proc_any none 0 [] w hal Sl.nil (by simp)).mono fun e w' h => ⟨h.1, h.2⟩
/-- A slice literal of processes. -/
theorem run_buildP (l : List PV) (w : World) (parts : Array (Nat × Value)) (hp : parts.toList = ((l.map pvV).zipIdx 0).map fun x => (x.2, x.1)) (hpos : 0 < l.length) (hl : l.length ≤ 1000) :
    (Instr.buildSlice 22 l.length parts).run Tryz.prog w = .ok (.slice (some ⟨w.heap.size, 0, none⟩) l.length l.length) (w.alloc (.cells (procE.flat l).toArray 41)) :=
  run_buildE procE l pvV (fun _ => rfl) w parts hp hpos hl
theorem wpList_buildP {ops : Array Oper} {rest : List Oper} {o : Oper} {a : Act} {w : World} {Q : Exit → Act → World → Prop} (hg : o.guard = none) (n : Nat) (parts : Array (Nat × Operand)) (ho : o.op = .buildSlice 22 n parts) (l : List PV) (hn : l.length = n)
    (hp : parts.toList.map (fun x => (x.1, a.eval x.2)) = ((l.map pvV).zipIdx 0).map fun x => (x.2, x.1)) (hpos : 0 < l.length) (hl : l.length ≤ 1000)
    (h : wpList Tryz.prog ops Q rest (a.put o.dst (.slice (some ⟨w.heap.size, 0, none⟩) n n)) (w.alloc (.cells (procE.flat l).toArray 41))) : wpList Tryz.prog ops Q (o :: rest) a w := by
  subst hn
  refine wpList_plain hg fun _ hK => ?_
  unfold Oper.wp execOp
  simp only [ho, Sem.run_bind, run_buildP l w (parts.map fun (i, x) => (i, a.eval x)) (by rw [Array.toList_map]; exact hp) hpos hl, Result.andThen_ok]
  exact hK _ _ h

set_option maxRecDepth 100000 in
set_option maxHeartbeats 1000000 in
theorem config_any (w : World) : Calls Tryz.prog 32 #[] w fun e w' => e = .returned (cfgV 128 16 20 3 8 4 8 16 32) ∧ Below w.heap.size w w' := by
  unfold cfgV
  go_enter Tryz.func32, Tryz.ntmps32
  have kb : Blk (w.alloc (.cells #[.int .i64 0, .int .i64 0, .int .i64 0, .int .i64 0, .int .i64 0, .int .i64 0, .int .i64 0, .int .i64 0, .int .i64 0] 46)) w.heap.size 46 #[.int .i64 0, .int .i64 0, .int .i64 0, .int .i64 0, .int .i64 0, .int .i64 0, .int .i64 0, .int .i64 0, .int .i64 0] := Blk.new_ rfl rfl

  have k2 := (((((((((kb.set_ 0 (.int .i64 128)).set_ 1 (.int .i64 16)).set_ 2 (.int .i64 20)).set_ 3 (.int .i64 3)).set_ 4 (.int .i64 8)).set_ 5 (.int .i64 4)).set_ 6 (.int .i64 8)).set_ 7 (.int .i64 16)).set_ 8 (.int .i64 32))
  have c0 := k2.cell_ 0
  have c1 := k2.cell_ 1
  have c2 := k2.cell_ 2
  have c3 := k2.cell_ 3
  have c4 := k2.cell_ 4
  have c5 := k2.cell_ 5
  have c6 := k2.cell_ 6
  have c7 := k2.cell_ 7
  have c8 := k2.cell_ 8
  simp at c0 c1 c2 c3 c4 c5 c6 c7 c8
  clear k2 kb
  go_wp2
  refine bodyPost_ret (v := .agg #[.int .i64 128, .int .i64 16, .int .i64 20, .int .i64 3, .int .i64 8, .int .i64 4, .int .i64 8, .int .i64 16, .int .i64 32]) (by simp [results, Tryz.results32, go_sem, c0, c1, c2, c3, c4, c5, c6, c7, c8]) rfl ?_
  exact ⟨rfl, (by repeat' (first | with_reducible exact Below.refl _ _ | with_reducible assumption | with_reducible apply Below.drew | with_reducible apply below_drewN | with_reducible apply Below.alloc | with_reducible apply Below.setCell | (with_reducible refine Below.trans ?_ (Below.mono (by assumption) ?_)) | (simp; done) | (simp; omega) | omega | with_reducible apply le_size_alloc | with_reducible apply le_size_drewN | with_reducible apply le_size_drew | with_reducible apply le_size_setCell | refine Nat.le_trans ?_ (Below.size (by assumption))))⟩

def threeL : List PV := [prcT [tP1c, tS2], prcT [tP1c, tP3w], prcT [tP4w]]
set_option maxRecDepth 100000 in
set_option maxHeartbeats 2000000 in
theorem three_any (w : World) (hal : AL w) : Calls Tryz.prog 30 #[] w fun e w' => (∃ b, e = .returned (.slice (some ⟨b, 0, none⟩) 3 3) ∧ CR procE w' (some ⟨b, 0, none⟩) 3 threeL) ∧ Below w.heap.size w w' := by
  have HAL := Lib.hid hal
  clear hal
  have h1 : ∀ w, AL w → Calls Tryz.prog _ #[.slice (some ⟨w.heap.size, 0, none⟩) 2 2] _ _ := fun w ha => proc_lit [tP1c, tS2] w ha (by decide)
  have h2 : ∀ w, AL w → Calls Tryz.prog _ #[.slice (some ⟨w.heap.size, 0, none⟩) 2 2] _ _ := fun w ha => proc_lit [tP1c, tP3w] w ha (by decide)
  have h3 : ∀ w, AL w → Calls Tryz.prog _ #[.slice (some ⟨w.heap.size, 0, none⟩) 1 1] _ _ := fun w ha => proc_lit [tP4w] w ha (by decide)
  unfold threeL
  generalize prcT [tP1c, tS2] = p1 at *
  generalize prcT [tP1c, tP3w] = p2 at *
  generalize prcT [tP4w] = p3 at *
  go_enter Tryz.func30, Tryz.ntmps30
  go_wp2_with fail
  refine (h1 _ HAL.out).mono ?_
  rintro e w1 ⟨rfl, b1⟩
  clear h1
  go_wp2_with fail
  refine (h2 _ (HAL.out.ext b1)).mono ?_
  rintro e w2 ⟨rfl, b2⟩
  clear h2
  have B2 : Below w.heap.size w w2 := b1.trans (b2.mono b1.size)
  clear b1 b2
  go_wp2_with fail
  refine (h3 _ (HAL.out.ext B2)).mono ?_
  rintro e w3 ⟨rfl, b3⟩
  clear h3
  have B3 : Below w.heap.size w w3 := B2.trans (b3.mono B2.size)
  clear B2 b3
  go_wp2_with (refine wpList_buildP rfl 3 _ rfl [p1, p2, p3] rfl rfl (by simp) (by simp) ?_)
  refine bodyPost_ret (v := .slice (some ⟨w3.heap.size, 0, none⟩) 3 3) (by simp [results, Tryz.results30, go_sem]) rfl ?_
  exact ⟨⟨_, rfl, SR.of_blk (Blk.new_ rfl rfl), by simp⟩, (by repeat' (first | with_reducible exact Below.refl _ _ | with_reducible assumption | with_reducible apply Below.drew | with_reducible apply below_drewN | with_reducible apply Below.alloc | with_reducible apply Below.setCell | (with_reducible refine Below.trans ?_ (Below.mono (by assumption) ?_)) | (simp; done) | (simp; omega) | omega | with_reducible apply le_size_alloc | with_reducible apply le_size_drewN | with_reducible apply le_size_drew | with_reducible apply le_size_setCell | refine Nat.le_trans ?_ (Below.size (by assumption))))⟩

set_option maxRecDepth 100000 in
set_option maxHeartbeats 2000000 in
theorem victim_any (A : Option Addr) (c : Nat) (l : List PV) (n : Int) (B : Option Addr) (d : Nat) (sp : List Int) (w : World) (hal : AL w) (hs : SR procE w A l) (ll : l.length ≤ 1000) (hp : Sl w (.int .i64) B sp) (lp : sp.length ≤ 1000) (h1 : vicE l sp = 0) (h2 : vicI l sp = n) :
    Calls Tryz.prog 33 #[.slice A l.length c, .int .i64 n, .slice B sp.length d] w fun e w' => e = .returned (.bool true) ∧ Below w.heap.size w w' := by
  have hV := Victim_any A c l B d sp w hal hs ll hp lp
  rw [h1, h2] at hV
  clear hs hp h1 h2
  go_enter Tryz.func33, Tryz.ntmps33
  go_wp2_with fail
  refine hV.mono ?_
  rintro e w1 ⟨rfl, hb1⟩
  go_wp2
  refine bodyPost_ret (v := .bool true) (by simp [results, Tryz.results33, go_sem]) rfl ?_
  exact ⟨rfl, (by repeat' (first | with_reducible exact Below.refl _ _ | with_reducible assumption | with_reducible apply Below.drew | with_reducible apply below_drewN | with_reducible apply Below.alloc | with_reducible apply Below.setCell | (with_reducible refine Below.trans ?_ (Below.mono (by assumption) ?_)) | (simp; done) | (simp; omega) | omega | with_reducible apply le_size_alloc | with_reducible apply le_size_drewN | with_reducible apply le_size_drew | with_reducible apply le_size_setCell | refine Nat.le_trans ?_ (Below.size (by assumption))))⟩

set_option maxRecDepth 100000 in
set_option maxHeartbeats 2000000 in
theorem yields_any (n k : Int) (w : World) (hal : AL w) (h1 : yldE (threeL.take 2) n = 0) (h2 : yldI (threeL.take 2) n = k) :
    Calls Tryz.prog 34 #[.int .i64 n, .int .i64 k] w fun e w' => e = .returned (.bool true) ∧ Below w.heap.size w w' := by
  have HAL := Lib.hid hal
  have hT := three_any w hal
  have hY : ∀ b w', Below w.heap.size w w' → CR procE w' (some ⟨b, 0, none⟩) 3 threeL → Calls Tryz.prog 31 #[.slice (some ⟨b, 0, none⟩) 2 3, .int .i64 n] w' fun e w2 => e = .returned (.tuple #[.int .i64 k, .int .i64 0]) ∧ Below w'.heap.size w' w2 := fun b w' hb hc => by
    have := Yield_any (some ⟨b, 0, none⟩) 3 (threeL.take 2) n w' (HAL.out.ext hb) (hc.1.take 2) (by decide)
    rw [h1, h2] at this
    exact this
  clear hal h1 h2
  generalize threeL = L at *
  go_enter Tryz.func34, Tryz.ntmps34
  go_wp2_with fail
  refine hT.mono ?_
  rintro e w1 ⟨⟨b, rfl, hc⟩, hb1⟩
  have hY1 := hY b w1 hb1 hc
  clear hY hT hc
  go_wp2_with fail
  refine hY1.mono ?_
  rintro e w2 ⟨rfl, hb2⟩
  go_wp2
  refine bodyPost_ret (v := .bool true) (by simp [results, Tryz.results34, go_sem]) rfl ?_
  exact ⟨rfl, (by repeat' (first | with_reducible exact Below.refl _ _ | with_reducible assumption | with_reducible apply Below.drew | with_reducible apply below_drewN | with_reducible apply Below.alloc | with_reducible apply Below.setCell | (with_reducible refine Below.trans ?_ (Below.mono (by assumption) ?_)) | (simp; done) | (simp; omega) | omega | with_reducible apply le_size_alloc | with_reducible apply le_size_drewN | with_reducible apply le_size_drew | with_reducible apply le_size_setCell | refine Nat.le_trans ?_ (Below.size (by assumption))))⟩

theorem srt_simp (l k : List C2) (h : k.Pairwise fun x y => ltC y x = false) (hp : l.Perm k) : srtC l = k := by
  have h1 : (srtC l).Perm k := (List.mergeSort_perm l _).trans hp
  exact List.Perm.eq_of_pairwise (le := fun x y => ltC y x = false) (fun a b _ _ h1 h2 => totC a b h2 h1) (srtC_asc l) h h1
theorem awake_score : scoE (prcT [tP1w, tNone, tS3, tP2c]).es = 0 ∧ scoN (prcT [tP1w, tNone, tS3, tP2c]).es = 3 := by decide +kernel
def ranksL : List PV := [prcT [tP4w], prcT [tP1c, tS2], prcT [tP1c, tP3w]]
theorem awake_ranks : rnkE ranksL [] = 0 ∧ rnkL ranksL [] = [2, 3, 1] := by
  refine ⟨by decide +kernel, ?_⟩
  unfold rnkL
  rw [show candL ranksL [] = [(1, 1), (2, 2), (3, 2)] by decide +kernel, srt_simp _ [(2, 2), (3, 2), (1, 1)] (by decide) (by decide)]
  rfl
theorem three_cand : candL threeL [] = [(1, 2), (2, 2), (3, 1)] := by decide +kernel
theorem awake_victim : vicE threeL [] = 0 ∧ vicI threeL [] = 1 :=
  vic_some (by decide +kernel) (m := (1, 2)) (by rw [three_cand]; exact ⟨by decide, by decide⟩)
theorem awake_yields : yldE (threeL.take 2) 2 = 0 ∧ yldI (threeL.take 2) 2 = 2 := by decide +kernel
def talA : TL := ⟨0, 1, 2, 3, false, 0, 0, 0, 0, false, 0, 1, 0, 0, 0⟩
theorem awake_tally : chkT talA = 0 ∧ allB talA = true := by decide +kernel
theorem awake_K : fitE 128 16 20 3 8 4 8 16 32 = 0 ∧ kN 8 4 = 87 ∧ safeE 0 61 = 0 ∧ safeB 128 20 87 61 = true := by decide +kernel

end Go.Proofs.YtmbpjafiinfkkaaGreatDoor
