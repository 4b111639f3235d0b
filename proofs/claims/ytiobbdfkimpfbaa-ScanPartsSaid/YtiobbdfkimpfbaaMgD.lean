/- The law's own helpers: large, lists. -/
/- The law's own helpers: steps, directs. -/
/- awake: some of the chapter's examples. Written by gen_scs.py. -/
import Derived.Test.YtiobbdfkimpfbaaMgB
import Derived.Test.YtiobbdfkimpfbaaMgC
import Derived.Test.YtiobbdfkimpfbaaLruK
import Derived.Test.YtiobbdfkimpfbaaKitS
import Derived.Test.YtiobbdfkimpfbaaKitL
namespace Go.Proofs.Ytiobbdfkimpfbaa
set_option linter.unusedSimpArgs false
set_option linter.unusedVariables false
open Go.RowKit Go.Maps

set_option maxRecDepth 100000 in
set_option maxHeartbeats 4000000 in
theorem large_any (A1 A2 A3 : Option Addr) (c1 c2 c3 n1 n2 n3 : Nat) (w : World) :
    Calls Try.prog 10 #[.agg #[.slice A1 n1 c1, .slice A2 n2 c2, .slice A3 n3 c3]] w fun e w' => e = .returned (.bool (decide (40 < n1 ∨ 40 < n2 ∨ 260 < n3))) ∧ Below w.heap.size w w' := by
  by_cases h1 : 40 < n1
  · rw [decide_eq_true (.inl h1)]
    have i1 : (40 : Int) < n1 := by omega
    go_enter Try.func10, Try.ntmps10
    go_wp2_with fail
    go_ret
    exact ⟨rfl, (Below.refl _ _).alloc (Nat.le_refl _) _⟩
  · by_cases h2 : 40 < n2
    · rw [decide_eq_true (.inr (.inl h2))]
      have i1 : ¬ (40 : Int) < n1 := by omega
      have i2 : (40 : Int) < n2 := by omega
      go_enter Try.func10, Try.ntmps10
      go_wp2_with fail
      go_ret
      exact ⟨rfl, (Below.refl _ _).alloc (Nat.le_refl _) _⟩
    · have i1 : ¬ (40 : Int) < n1 := by omega
      have i2 : ¬ (40 : Int) < n2 := by omega
      by_cases h3 : 260 < n3
      · rw [decide_eq_true (.inr (.inr h3))]
        have i3 : (260 : Int) < n3 := by omega
        go_enter Try.func10, Try.ntmps10
        go_wp2_with fail
        go_ret
        exact ⟨rfl, (Below.refl _ _).alloc (Nat.le_refl _) _⟩
      · rw [decide_eq_false (by omega)]
        have i3 : ¬ (260 : Int) < n3 := by omega
        go_enter Try.func10, Try.ntmps10
        go_wp2_with fail
        go_ret
        exact ⟨rfl, (Below.refl _ _).alloc (Nat.le_refl _) _⟩

/-- The marks of frames. -/
def refL (fs : List Int) : List Bool := fs.foldl (fun l f => l.set f.toNat true) (List.replicate 8 false)
theorem refL_len (fs : List Int) : (refL fs).length = 8 := by
  unfold refL
  rw [show ∀ (l : List Bool), (fs.foldl (fun l f => l.set f.toNat true) l).length = l.length from ?_]
  · simp
  · induction fs with
    | nil => intro l; rfl
    | cons f t ih => intro l; rw [List.foldl_cons, ih]; simp
theorem refL_snoc (fs : List Int) (f : Int) : refL (fs ++ [f]) = (refL fs).set f.toNat true := by unfold refL; rw [List.foldl_append]; rfl

set_option maxRecDepth 100000 in
set_option maxHeartbeats 4000000 in
theorem lists_any (A1 A2 A3 : Option Addr) (n1 n2 c1 c2 c3 : Nat) (fs : List Int) (w : World) (h : Sl w (.int .i64) A3 fs) (hf : ∀ f ∈ fs, 0 ≤ f ∧ f < 8) (hl : fs.length ≤ 1000) :
    Calls Try.prog 27 #[.slice A1 n1 c1, .slice A2 n2 c2, .slice A3 fs.length c3] w fun e w' =>
      ∃ b, e = .returned (.agg #[.slice A1 n1 c1, .slice A2 n2 c2, .slice (some ⟨b, 0, none⟩) 8 8]) ∧ Sl w' .bool (some ⟨b, 0, none⟩) (refL fs) ∧ w.heap.size ≤ b ∧ Below w.heap.size w w' := by
  have hmk := mk8
  have H := Lib.hid h; have HF := Lib.hid hf
  clear h hf
  go_enter Try.func27, Try.ntmps27
  go_wp2_with fail
  clear hmk
  go_loopw [8] (fun i wr => ∃ k : Nat, k ≤ fs.length ∧ i = .int .i64 k ∧ Hid (Blk wr (w.heap.size + 1) 4 ((refL (fs.take k)).map Value.bool).toArray) ∧ Hid (Blk wr (w.heap.size + 1 + 1) 25 #[.slice A1 n1 c1, .slice A2 n2 c2, .slice (some ⟨w.heap.size + 1, 0, none⟩) 8 8]) ∧
    Hid (Blk wr w.heap.size 25 #[.slice none 0 0, .slice none 0 0, .slice none 0 0]) ∧ Hid (Below w.heap.size w wr)) (fun i _ => fs.length - (intOf i).toNat)
  case atStart =>
    refine ⟨0, Nat.zero_le _, rfl, ?_, ?_, ?_, ?_⟩
    · show Blk _ _ _ _; exact (Blk.new_ (by simp) rfl).alloc_ _
    · show Blk _ _ _ _; exact Blk.new_ (by simp) rfl
    · show Blk _ _ _ _; exact ((Blk.new_ rfl rfl).alloc_ _).alloc_ _
    · show Below _ _ _; exact (((Below.refl _ _).alloc (Nat.le_refl _) _).alloc (by simp) _).alloc (by simp; omega) _
  case round =>
    obtain ⟨k, hk, rfl, K1, K2, K0, HB⟩ := hrel
    by_cases hlt : k < fs.length
    · obtain ⟨b, off, f, rfl, hb, hx, hc⟩ := (H.out.ext HB.out).at_ hlt
      have hf2 := HF.out f (List.mem_of_getElem? hx)
      have HEX : Hid (refL (fs.take (k + 1)) = (refL (fs.take k)).set f.toNat true) := by
        show _ = _
        rw [List.take_add_one, hx]
        exact refL_snoc _ _
      obtain ⟨G, rfl⟩ : ∃ G : Nat, f = G := ⟨f.toNat, by omega⟩
      have hG : (G : Int) < 8 := hf2.2
      have hG8 : G < (refL (fs.take k)).length := by rw [refL_len]; omega
      have i1 : (k : Int) < fs.length := by omega
      have q2 : wr.cell? ⟨w.heap.size + 1 + 1, 2, none⟩ = some (.slice (some ⟨w.heap.size + 1, 0, none⟩) 8 8) := (K2.out.cell_ 2).trans (by simp)
      have m0 : wr.cell? ⟨w.heap.size + 1, G, none⟩ = some (.bool ((refL (fs.take k))[G])) := (K1.out.cell_ G).trans (by simp [hG8])
      have g0 := K1.out.frozen_ G
      have hwk : IntKind.i64.wrap (k : Int) = k := by rw [IntKind.wrap_i64]; omega
      have hwg : IntKind.i64.wrap (G : Int) = G := by rw [IntKind.wrap_i64]; omega
      have hbw : b < wr.heap.size := hb
      clear hx
      go_wp2_with fail
      go_region
      all_goals
        go_wp2_with fail
        go_roundw
        case rel =>
          refine ⟨k + 1, by omega, by go_num, ?_, ?_, ?_, ?_⟩
          · show Blk _ _ _ _
            rw [HEX.out, List.map_set]
            have := K1.out.set_ G (.bool true)
            exact Blk.drew_ (by simpa using this)
          · exact Blk.drew_ (K2.out.far_ (by simp) _)
          · exact Blk.drew_ (K0.out.far_ (by simp) _)
          · exact (HB.out.setCell (p := ⟨w.heap.size + 1, G, none⟩) (show w.heap.size ≤ w.heap.size + 1 by omega) _).drew
        case measure => simp [intOf]; omega
    · obtain rfl : k = fs.length := by omega
      rw [List.take_length] at K1
      have q0 : wr.cell? ⟨w.heap.size + 1 + 1, 0, none⟩ = some (.slice A1 n1 c1) := (K2.out.cell_ 0).trans (by simp)
      have q1 : wr.cell? ⟨w.heap.size + 1 + 1, 1, none⟩ = some (.slice A2 n2 c2) := (K2.out.cell_ 1).trans (by simp)
      have q2 : wr.cell? ⟨w.heap.size + 1 + 1, 2, none⟩ = some (.slice (some ⟨w.heap.size + 1, 0, none⟩) 8 8) := (K2.out.cell_ 2).trans (by simp)
      have y0 : wr.cell? ⟨w.heap.size, 0, none⟩ = some (.slice none 0 0) := (K0.out.cell_ 0).trans (by simp)
      have y1 : wr.cell? ⟨w.heap.size, 1, none⟩ = some (.slice none 0 0) := (K0.out.cell_ 1).trans (by simp)
      have y2 : wr.cell? ⟨w.heap.size, 2, none⟩ = some (.slice none 0 0) := (K0.out.cell_ 2).trans (by simp)
      have g0 := K0.out.frozen_ 0
      have g1 := K0.out.frozen_ 1
      have g2 := K0.out.frozen_ 2
      go_wp2_with fail
      refine bodyPost_ret (v := .agg #[.slice A1 n1 c1, .slice A2 n2 c2, .slice (some ⟨w.heap.size + 1, 0, none⟩) 8 8]) (by simp [results, Try.results27, go_sem, y0, y1, y2]) rfl ?_
      refine ⟨w.heap.size + 1, rfl, ?_, by omega, ((HB.out.setCell (p := ⟨w.heap.size, 0, none⟩) (Nat.le_refl _) _).setCell (p := ⟨w.heap.size, 1, none⟩) (Nat.le_refl _) _).setCell (p := ⟨w.heap.size, 2, none⟩) (Nat.le_refl _) _⟩
      have hS : Sl wr .bool (some ⟨w.heap.size + 1, 0, none⟩) (refL fs) := Sl.of_blk K1.out fun j x hx => by simp [hx]
      exact ((hS.far_ (fun g e => by simp at e; omega) _ _).far_ (fun g e => by simp at e; omega) _ _).far_ (fun g e => by simp at e; omega) _ _
end Go.Proofs.Ytiobbdfkimpfbaa
namespace Go.Proofs.Ytiobbdfkimpfbaa
set_option linter.unusedSimpArgs false
set_option linter.unusedVariables false
open Go.RowKit Go.Maps

theorem same_lists (A1 A2 A3 B1 B2 B3 : Option Addr) (c1 c2 c3 d1 d2 d3 : Nat) (xs ys : List Int) (rs : List Bool) (w : World) (h : InMem w A1 A2 A3 xs ys rs) (h' : InMem w B1 B2 B3 xs ys rs) (l1 : xs.length ≤ 1000) (l2 : ys.length ≤ 1000) (l3 : rs.length ≤ 1000) :
    Calls Try.prog 15 #[.agg #[.slice A1 xs.length c1, .slice A2 ys.length c2, .slice A3 rs.length c3], .agg #[.slice B1 xs.length d1, .slice B2 ys.length d2, .slice B3 rs.length d3]] w fun e w' => e = .returned (.bool true) ∧ Below w.heap.size w w' := by
  have := SameLists_any A1 A2 A3 B1 B2 B3 c1 c2 c3 d1 d2 d3 xs ys xs ys rs rs w h.a h.i h.r h'.a h'.i h'.r (by omega) (by omega) (by omega) (by omega) (by omega) (by omega)
  simpa using this

set_option maxRecDepth 100000 in
set_option maxHeartbeats 4000000 in
theorem steps_any (A1 A2 A3 B1 B2 B3 : Option Addr) (c1 c2 c3 d1 d2 d3 : Nat) (xs ys us vs : List Int) (rs ss : List Bool) (T what frame : Int) (w : World) (h : InMem w A1 A2 A3 xs ys rs) (h' : InMem w B1 B2 B3 us vs ss)
    (hS : fullS T xs ys rs = ⟨what, frame, us, vs, ss, 0⟩) (l1 : us.length ≤ 1000) (l2 : vs.length ≤ 1000) (l3 : ss.length ≤ 1000) :
    Calls Try.prog 28 #[.agg #[.slice A1 xs.length c1, .slice A2 ys.length c2, .slice A3 rs.length c3], .int .i64 T, .int .i64 what, .int .i64 frame, .agg #[.slice B1 us.length d1, .slice B2 vs.length d2, .slice B3 ss.length d3]] w fun e w' => e = .returned (.bool true) ∧ Below w.heap.size w w' := by
  have HM := Lib.hid h; have HM' := Lib.hid h'; have HS := Lib.hid hS
  clear h h' hS
  go_enter Try.func28, Try.ntmps28
  go_wp2_with fail
  obtain ⟨X, hX⟩ : ∃ X, (w.alloc (.cells #[.slice A1 xs.length c1, .slice A2 ys.length c2, .slice A3 rs.length c3] 25)).alloc (.cells #[.slice B1 us.length d1, .slice B2 vs.length d2, .slice B3 ss.length d3] 25) = X := ⟨_, rfl⟩
  have HBX : Hid (Below w.heap.size w X) := by show Below _ _ _; rw [← hX]; exact ((Below.refl _ _).alloc (Nat.le_refl _) _).alloc (by simp) _
  have k9 : Blk X (w.heap.size + 1) 25 #[.slice B1 us.length d1, .slice B2 vs.length d2, .slice B3 ss.length d3] := by rw [← hX]; exact Blk.new_ (by simp) rfl
  (try rw [hX])
  refine (Step_any A1 A2 A3 c1 c2 c3 xs ys rs T X (HM.out.ext HBX.out)).mono ?_
  rw [HS.out]
  rintro e x1 ⟨E1, E2, E3, e1, e2, e3, rfl, hm1, hn1, hb1⟩
  dsimp only at hm1 hn1 ⊢
  have HM1 := Lib.hid hm1
  have K9 := Lib.hid (k9.below_ hb1 k9.lt)
  have HB1 := Lib.hid (HBX.out.trans (hb1.mono HBX.out.size))
  have q0 : x1.cell? ⟨w.heap.size + 1, 0, none⟩ = some (.slice B1 us.length d1) := (K9.out.cell_ 0).trans (by simp)
  have q1 : x1.cell? ⟨w.heap.size + 1, 1, none⟩ = some (.slice B2 vs.length d2) := (K9.out.cell_ 1).trans (by simp)
  have q2 : x1.cell? ⟨w.heap.size + 1, 2, none⟩ = some (.slice B3 ss.length d3) := (K9.out.cell_ 2).trans (by simp)
  have kl := K9.out.lt
  have nb : w.heap.size + 1 ≠ x1.heap.size := by omega
  clear hm1 hn1 hb1 k9 hX
  go_wp2_with fail
  have HA : ∀ o : Obj, Below x1.heap.size x1 (x1.alloc o) := fun o => (Below.refl _ _).alloc (Nat.le_refl _) _
  refine (same_lists E1 E2 E3 B1 B2 B3 e1 e2 e3 d1 d2 d3 us vs ss _ (HM1.out.ext (HA _)) (HM'.out.ext (HB1.out.trans ((HA _).mono HB1.out.size))) l1 l2 l3).mono ?_
  rintro e x2 ⟨rfl, hb2⟩
  have HB2 := HB1.out.trans (((HA _).trans (hb2.mono (HA _).size)).mono HB1.out.size)
  clear hb2
  go_wp2_with fail
  go_ret
  exact ⟨rfl, HB2⟩

set_option maxRecDepth 100000 in
set_option maxHeartbeats 4000000 in
theorem directs_any (A1 A2 A3 B1 B2 B3 : Option Addr) (c1 c2 c3 d1 d2 d3 : Nat) (xs ys us vs : List Int) (rs ss : List Bool) (frame : Int) (w : World) (h : InMem w A1 A2 A3 xs ys rs) (h' : InMem w B1 B2 B3 us vs ss)
    (hS : dirS xs ys rs = ⟨us, vs, ss, 0⟩ ∧ dirF xs ys rs = frame) (l1 : us.length ≤ 1000) (l2 : vs.length ≤ 1000) (l3 : ss.length ≤ 1000) :
    Calls Try.prog 29 #[.agg #[.slice A1 xs.length c1, .slice A2 ys.length c2, .slice A3 rs.length c3], .int .i64 frame, .agg #[.slice B1 us.length d1, .slice B2 vs.length d2, .slice B3 ss.length d3]] w fun e w' => e = .returned (.bool true) ∧ Below w.heap.size w w' := by
  have HM := Lib.hid h; have HM' := Lib.hid h'; have HS := Lib.hid hS
  clear h h' hS
  go_enter Try.func29, Try.ntmps29
  go_wp2_with fail
  obtain ⟨X, hX⟩ : ∃ X, (w.alloc (.cells #[.slice A1 xs.length c1, .slice A2 ys.length c2, .slice A3 rs.length c3] 25)).alloc (.cells #[.slice B1 us.length d1, .slice B2 vs.length d2, .slice B3 ss.length d3] 25) = X := ⟨_, rfl⟩
  have HBX : Hid (Below w.heap.size w X) := by show Below _ _ _; rw [← hX]; exact ((Below.refl _ _).alloc (Nat.le_refl _) _).alloc (by simp) _
  have k9 : Blk X (w.heap.size + 1) 25 #[.slice B1 us.length d1, .slice B2 vs.length d2, .slice B3 ss.length d3] := by rw [← hX]; exact Blk.new_ (by simp) rfl
  (try rw [hX])
  refine (Direct_any A1 A2 A3 c1 c2 c3 xs ys rs X (HM.out.ext HBX.out)).mono ?_
  rw [HS.out.1, HS.out.2]
  rintro e x1 ⟨E1, e1, E2, e2, E3, e3, rfl, hm1, hn1, hb1⟩
  dsimp only at hm1 hn1 ⊢
  have HM1 := Lib.hid hm1
  have K9 := Lib.hid (k9.below_ hb1 k9.lt)
  have HB1 := Lib.hid (HBX.out.trans (hb1.mono HBX.out.size))
  have q0 : x1.cell? ⟨w.heap.size + 1, 0, none⟩ = some (.slice B1 us.length d1) := (K9.out.cell_ 0).trans (by simp)
  have q1 : x1.cell? ⟨w.heap.size + 1, 1, none⟩ = some (.slice B2 vs.length d2) := (K9.out.cell_ 1).trans (by simp)
  have q2 : x1.cell? ⟨w.heap.size + 1, 2, none⟩ = some (.slice B3 ss.length d3) := (K9.out.cell_ 2).trans (by simp)
  have kl := K9.out.lt
  have nb : w.heap.size + 1 ≠ x1.heap.size := by omega
  clear hm1 hn1 hb1 k9 hX
  go_wp2_with fail
  have HA : ∀ o : Obj, Below x1.heap.size x1 (x1.alloc o) := fun o => (Below.refl _ _).alloc (Nat.le_refl _) _
  refine (same_lists E1 E2 E3 B1 B2 B3 e1 e2 e3 d1 d2 d3 us vs ss _ (HM1.out.ext (HA _)) (HM'.out.ext (HB1.out.trans ((HA _).mono HB1.out.size))) l1 l2 l3).mono ?_
  rintro e x2 ⟨rfl, hb2⟩
  have HB2 := HB1.out.trans (((HA _).trans (hb2.mono (HA _).size)).mono HB1.out.size)
  clear hb2
  go_wp2_with fail
  go_ret
  exact ⟨rfl, HB2⟩
end Go.Proofs.Ytiobbdfkimpfbaa
namespace Go.Proofs.Ytiobbdfkimpfbaa
set_option linter.unusedSimpArgs false
set_option linter.unusedVariables false
open Go.RowKit Go.Maps

theorem inMem_lit {w : World} {A1 A2 A3 : Option Addr} {xs ys : List Int} {rs : List Bool} (h1 : Sl w (.int .i64) A1 xs) (h2 : Sl w (.int .i64) A2 ys) (h3 : Sl w .bool A3 rs) (l1 : xs.length ≤ 1000) (l2 : ys.length ≤ 1000) (l3 : rs.length ≤ 1000)
    (b1 : ∀ x ∈ xs, 0 ≤ x ∧ x ≤ 1000) (b2 : ∀ x ∈ ys, 0 ≤ x ∧ x ≤ 1000) : InMem w A1 A2 A3 xs ys rs :=
  ⟨h1, h2, h3, by omega, by omega, by omega, fun x hx => wf_small (b1 x hx).1 (by have := (b1 x hx).2; omega), fun x hx => wf_small (b2 x hx).1 (by have := (b2 x hx).2; omega)⟩

set_option maxRecDepth 100000 in
set_option maxHeartbeats 8000000 in
theorem awake_any (w : World) : Calls Try.prog 11 #[] w fun e w' => e = .returned (.bool true) ∧ Below w.heap.size w w' := by
  go_enter Try.func11, Try.ntmps11
  go_wp2_with fail
  obtain ⟨y1, hy1⟩ : ∃ Y, (((w.alloc (.cells #[.int .i64 1, .int .i64 2] 3)).alloc (.cells #[.int .i64 3] 3)).alloc (.cells #[.int .i64 3] 3)) = Y := ⟨_, rfl⟩
  have by1 : Below w.heap.size w y1 := by rw [← hy1]; exact (((Below.refl _ _).alloc (Nat.le_refl _) _).alloc (by simp) _).alloc (by simp; omega) _
  have ky1_0 : Blk y1 (w.heap.size) 3 #[.int .i64 1, .int .i64 2] := by rw [← hy1]; exact ((Blk.new_ (by simp) rfl).alloc_ _).alloc_ _
  have ky1_1 : Blk y1 (w.heap.size + 1) 3 #[.int .i64 3] := by rw [← hy1]; exact (Blk.new_ (by simp) rfl).alloc_ _
  have ky1_2 : Blk y1 (w.heap.size + 1 + 1) 3 #[.int .i64 3] := by rw [← hy1]; exact Blk.new_ (by simp) rfl
  (try rw [hy1])
  clear hy1
  have HB_y1 : Hid (Below w.heap.size w y1) := by1
  refine (lists_any (some ⟨w.heap.size, 0, none⟩) (some ⟨w.heap.size + 1, 0, none⟩) (some ⟨w.heap.size + 1 + 1, 0, none⟩) 2 1 2 1 1 [3] _ (Sl.of_lit (t := 3) (xs := [3]) ky1_2) (by simp) (by simp)).mono ?_
  rintro e x2 ⟨gx2, rfl, sx2, nx2, hx2⟩
  have Ma : Hid (InMem x2 (some ⟨w.heap.size, 0, none⟩) (some ⟨w.heap.size + 1, 0, none⟩) (some ⟨gx2, 0, none⟩) [1, 2] [3] [false, false, false, true, false, false, false, false]) := inMem_lit (Sl.of_lit (t := 3) (xs := [1, 2]) (ky1_0.below_ hx2 ky1_0.lt)) (Sl.of_lit (t := 3) (xs := [3]) (ky1_1.below_ hx2 ky1_1.lt)) sx2 (by simp) (by simp) (by simp) (by simp) (by simp)
  clear ky1_0 ky1_1 ky1_2 sx2 nx2
  have HB_x2 : Hid (Below w.heap.size w x2) := HB_y1.out.trans (hx2.mono HB_y1.out.size)
  clear HB_y1
  go_wp2_with fail
  have HV : Hid (vicS 1 [1, 2] [3] [false, false, false, true, false, false, false, false] = ([2, 1, 3], 0)) := by show _ = _; kernel_rfl
  refine (Victims_any (some ⟨w.heap.size, 0, none⟩) (some ⟨w.heap.size + 1, 0, none⟩) (some ⟨gx2, 0, none⟩) 2 1 8 [1, 2] [3] [false, false, false, true, false, false, false, false] 1 _ Ma.out).mono ?_
  rw [HV.out]
  rintro e v1 ⟨V1, Vc, rfl, sv, hv1⟩
  dsimp only at sv ⊢
  simp only [List.length_cons, List.length_nil, Nat.reduceAdd]
  have SV := Lib.hid sv
  clear sv HV
  have Ma_v1 : Hid (InMem v1 (some ⟨w.heap.size, 0, none⟩) (some ⟨w.heap.size + 1, 0, none⟩) (some ⟨gx2, 0, none⟩) [1, 2] [3] [false, false, false, true, false, false, false, false]) := Ma.out.ext hv1
  clear Ma
  have HB_v1 : Hid (Below w.heap.size w v1) := HB_x2.out.trans (hv1.mono HB_x2.out.size)
  clear HB_x2
  clear Ma_v1
  go_wp2_with fail
  obtain ⟨y3, hy3⟩ : ∃ Y, ((v1.alloc (.cells #[.int .i64 1, .int .i64 2, .int .i64 3] 3)).alloc (.cells #[.int .i64 2] 3)) = Y := ⟨_, rfl⟩
  have by3 : Below v1.heap.size v1 y3 := by rw [← hy3]; exact ((Below.refl _ _).alloc (Nat.le_refl _) _).alloc (by simp) _
  have ky3_0 : Blk y3 (v1.heap.size) 3 #[.int .i64 1, .int .i64 2, .int .i64 3] := by rw [← hy3]; exact (Blk.new_ (by simp) rfl).alloc_ _
  have ky3_1 : Blk y3 (v1.heap.size + 1) 3 #[.int .i64 2] := by rw [← hy3]; exact Blk.new_ (by simp) rfl
  (try rw [hy3])
  clear hy3
  have SV_y3 : Hid (Sl y3 (.int .i64) V1 [2, 1, 3]) := SV.out.ext by3
  clear SV
  have HB_y3 : Hid (Below w.heap.size w y3) := HB_v1.out.trans (by3.mono HB_v1.out.size)
  clear HB_v1
  refine (lists_any (some ⟨v1.heap.size, 0, none⟩) none (some ⟨v1.heap.size + 1, 0, none⟩) 3 0 3 0 1 [2] _ (Sl.of_lit (t := 3) (xs := [2]) ky3_1) (by simp) (by simp)).mono ?_
  rintro e x4 ⟨gx4, rfl, sx4, nx4, hx4⟩
  have Mb : Hid (InMem x4 (some ⟨v1.heap.size, 0, none⟩) none (some ⟨gx4, 0, none⟩) [1, 2, 3] ([] : List Int) [false, false, true, false, false, false, false, false]) := inMem_lit (Sl.of_lit (t := 3) (xs := [1, 2, 3]) (ky3_0.below_ hx4 ky3_0.lt)) Sl.nil sx4 (by simp) (by simp) (by simp) (by simp) (by simp)
  clear ky3_0 ky3_1 sx4 nx4
  have SV_x4 : Hid (Sl x4 (.int .i64) V1 [2, 1, 3]) := SV_y3.out.ext hx4
  clear SV_y3
  have HB_x4 : Hid (Below w.heap.size w x4) := HB_y3.out.trans (hx4.mono HB_y3.out.size)
  clear HB_y3
  go_wp2_with fail
  have HF : Hid (firS 1 [1, 2, 3] ([] : List Int) [false, false, true, false, false, false, false, false] = (3, 1, 0)) := by show _ = _; kernel_rfl
  refine (First_any (some ⟨v1.heap.size, 0, none⟩) none (some ⟨gx4, 0, none⟩) 3 0 8 [1, 2, 3] ([] : List Int) [false, false, true, false, false, false, false, false] 1 _ Mb.out).mono ?_
  rw [HF.out]
  rintro e v2 ⟨rfl, hv2⟩
  dsimp only
  clear HF
  have SV_v2 : Hid (Sl v2 (.int .i64) V1 [2, 1, 3]) := SV_x4.out.ext hv2
  clear SV_x4
  have Mb_v2 : Hid (InMem v2 (some ⟨v1.heap.size, 0, none⟩) none (some ⟨gx4, 0, none⟩) [1, 2, 3] ([] : List Int) [false, false, true, false, false, false, false, false]) := Mb.out.ext hv2
  clear Mb
  have HB_v2 : Hid (Below w.heap.size w v2) := HB_x4.out.trans (hv2.mono HB_x4.out.size)
  clear HB_x4
  clear Mb_v2
  go_wp2_with fail
  obtain ⟨y5, hy5⟩ : ∃ Y, ((v2.alloc (.cells #[.int .i64 1, .int .i64 2, .int .i64 3] 3)).alloc (.cells #[.int .i64 2] 3)) = Y := ⟨_, rfl⟩
  have by5 : Below v2.heap.size v2 y5 := by rw [← hy5]; exact ((Below.refl _ _).alloc (Nat.le_refl _) _).alloc (by simp) _
  have ky5_0 : Blk y5 (v2.heap.size) 3 #[.int .i64 1, .int .i64 2, .int .i64 3] := by rw [← hy5]; exact (Blk.new_ (by simp) rfl).alloc_ _
  have ky5_1 : Blk y5 (v2.heap.size + 1) 3 #[.int .i64 2] := by rw [← hy5]; exact Blk.new_ (by simp) rfl
  (try rw [hy5])
  clear hy5
  have SV_y5 : Hid (Sl y5 (.int .i64) V1 [2, 1, 3]) := SV_v2.out.ext by5
  clear SV_v2
  have HB_y5 : Hid (Below w.heap.size w y5) := HB_v2.out.trans (by5.mono HB_v2.out.size)
  clear HB_v2
  refine (lists_any (some ⟨v2.heap.size, 0, none⟩) none (some ⟨v2.heap.size + 1, 0, none⟩) 3 0 3 0 1 [2] _ (Sl.of_lit (t := 3) (xs := [2]) ky5_1) (by simp) (by simp)).mono ?_
  rintro e x6 ⟨gx6, rfl, sx6, nx6, hx6⟩
  have Mc : Hid (InMem x6 (some ⟨v2.heap.size, 0, none⟩) none (some ⟨gx6, 0, none⟩) [1, 2, 3] ([] : List Int) [false, false, true, false, false, false, false, false]) := inMem_lit (Sl.of_lit (t := 3) (xs := [1, 2, 3]) (ky5_0.below_ hx6 ky5_0.lt)) Sl.nil sx6 (by simp) (by simp) (by simp) (by simp) (by simp)
  clear ky5_0 ky5_1 sx6 nx6
  have SV_x6 : Hid (Sl x6 (.int .i64) V1 [2, 1, 3]) := SV_y5.out.ext hx6
  clear SV_y5
  have HB_x6 : Hid (Below w.heap.size w x6) := HB_y5.out.trans (hx6.mono HB_y5.out.size)
  clear HB_y5
  go_wp2_with fail
  obtain ⟨y7, hy7⟩ : ∃ Y, (((x6.alloc (.cells #[.int .i64 1, .int .i64 2] 3)).alloc (.cells #[.int .i64 3] 3)).alloc (.cells #[.int .i64 2] 3)) = Y := ⟨_, rfl⟩
  have by7 : Below x6.heap.size x6 y7 := by rw [← hy7]; exact (((Below.refl _ _).alloc (Nat.le_refl _) _).alloc (by simp) _).alloc (by simp; omega) _
  have ky7_0 : Blk y7 (x6.heap.size) 3 #[.int .i64 1, .int .i64 2] := by rw [← hy7]; exact ((Blk.new_ (by simp) rfl).alloc_ _).alloc_ _
  have ky7_1 : Blk y7 (x6.heap.size + 1) 3 #[.int .i64 3] := by rw [← hy7]; exact (Blk.new_ (by simp) rfl).alloc_ _
  have ky7_2 : Blk y7 (x6.heap.size + 1 + 1) 3 #[.int .i64 2] := by rw [← hy7]; exact Blk.new_ (by simp) rfl
  (try rw [hy7])
  clear hy7
  have SV_y7 : Hid (Sl y7 (.int .i64) V1 [2, 1, 3]) := SV_x6.out.ext by7
  clear SV_x6
  have Mc_y7 : Hid (InMem y7 (some ⟨v2.heap.size, 0, none⟩) none (some ⟨gx6, 0, none⟩) [1, 2, 3] ([] : List Int) [false, false, true, false, false, false, false, false]) := Mc.out.ext by7
  clear Mc
  have HB_y7 : Hid (Below w.heap.size w y7) := HB_x6.out.trans (by7.mono HB_x6.out.size)
  clear HB_x6
  refine (lists_any (some ⟨x6.heap.size, 0, none⟩) (some ⟨x6.heap.size + 1, 0, none⟩) (some ⟨x6.heap.size + 1 + 1, 0, none⟩) 2 1 2 1 1 [2] _ (Sl.of_lit (t := 3) (xs := [2]) ky7_2) (by simp) (by simp)).mono ?_
  rintro e x8 ⟨gx8, rfl, sx8, nx8, hx8⟩
  have Md : Hid (InMem x8 (some ⟨x6.heap.size, 0, none⟩) (some ⟨x6.heap.size + 1, 0, none⟩) (some ⟨gx8, 0, none⟩) [1, 2] [3] [false, false, true, false, false, false, false, false]) := inMem_lit (Sl.of_lit (t := 3) (xs := [1, 2]) (ky7_0.below_ hx8 ky7_0.lt)) (Sl.of_lit (t := 3) (xs := [3]) (ky7_1.below_ hx8 ky7_1.lt)) sx8 (by simp) (by simp) (by simp) (by simp) (by simp)
  clear ky7_0 ky7_1 ky7_2 sx8 nx8
  have SV_x8 : Hid (Sl x8 (.int .i64) V1 [2, 1, 3]) := SV_y7.out.ext hx8
  clear SV_y7
  have Mc_x8 : Hid (InMem x8 (some ⟨v2.heap.size, 0, none⟩) none (some ⟨gx6, 0, none⟩) [1, 2, 3] ([] : List Int) [false, false, true, false, false, false, false, false]) := Mc_y7.out.ext hx8
  clear Mc_y7
  have HB_x8 : Hid (Below w.heap.size w x8) := HB_y7.out.trans (hx8.mono HB_y7.out.size)
  clear HB_y7
  go_wp2_with fail
  have Q9 : fullS 2 [1, 2, 3] ([] : List Int) [false, false, true, false, false, false, false, false] = ⟨1, 3, [1, 2], [3], [false, false, true, false, false, false, false, false], 0⟩ := by kernel_rfl
  refine (steps_any (some ⟨v2.heap.size, 0, none⟩) none (some ⟨gx6, 0, none⟩) (some ⟨x6.heap.size, 0, none⟩) (some ⟨x6.heap.size + 1, 0, none⟩) (some ⟨gx8, 0, none⟩) 3 0 8 2 1 8 [1, 2, 3] ([] : List Int) [1, 2] [3] [false, false, true, false, false, false, false, false] [false, false, true, false, false, false, false, false] 2 1 3 _ Mc_x8.out Md.out Q9 (by simp) (by simp) (by simp)).mono ?_
  rintro e x10 ⟨rfl, hx10⟩
  have SV_x10 : Hid (Sl x10 (.int .i64) V1 [2, 1, 3]) := SV_x8.out.ext hx10
  clear SV_x8
  have Mc_x10 : Hid (InMem x10 (some ⟨v2.heap.size, 0, none⟩) none (some ⟨gx6, 0, none⟩) [1, 2, 3] ([] : List Int) [false, false, true, false, false, false, false, false]) := Mc_x8.out.ext hx10
  clear Mc_x8
  have Md_x10 : Hid (InMem x10 (some ⟨x6.heap.size, 0, none⟩) (some ⟨x6.heap.size + 1, 0, none⟩) (some ⟨gx8, 0, none⟩) [1, 2] [3] [false, false, true, false, false, false, false, false]) := Md.out.ext hx10
  clear Md
  have HB_x10 : Hid (Below w.heap.size w x10) := HB_x8.out.trans (hx10.mono HB_x8.out.size)
  clear HB_x8
  go_wp2_with fail
  clear Mc_x10
  clear Md_x10
  obtain ⟨y11, hy11⟩ : ∃ Y, (((x10.alloc (.cells #[.int .i64 1] 3)).alloc (.cells #[.int .i64 2] 3)).alloc (.cells #[.int .i64 2] 3)) = Y := ⟨_, rfl⟩
  have by11 : Below x10.heap.size x10 y11 := by rw [← hy11]; exact (((Below.refl _ _).alloc (Nat.le_refl _) _).alloc (by simp) _).alloc (by simp; omega) _
  have ky11_0 : Blk y11 (x10.heap.size) 3 #[.int .i64 1] := by rw [← hy11]; exact ((Blk.new_ (by simp) rfl).alloc_ _).alloc_ _
  have ky11_1 : Blk y11 (x10.heap.size + 1) 3 #[.int .i64 2] := by rw [← hy11]; exact (Blk.new_ (by simp) rfl).alloc_ _
  have ky11_2 : Blk y11 (x10.heap.size + 1 + 1) 3 #[.int .i64 2] := by rw [← hy11]; exact Blk.new_ (by simp) rfl
  (try rw [hy11])
  clear hy11
  have SV_y11 : Hid (Sl y11 (.int .i64) V1 [2, 1, 3]) := SV_x10.out.ext by11
  clear SV_x10
  have HB_y11 : Hid (Below w.heap.size w y11) := HB_x10.out.trans (by11.mono HB_x10.out.size)
  clear HB_x10
  refine (lists_any (some ⟨x10.heap.size, 0, none⟩) (some ⟨x10.heap.size + 1, 0, none⟩) (some ⟨x10.heap.size + 1 + 1, 0, none⟩) 1 1 1 1 1 [2] _ (Sl.of_lit (t := 3) (xs := [2]) ky11_2) (by simp) (by simp)).mono ?_
  rintro e x12 ⟨gx12, rfl, sx12, nx12, hx12⟩
  have Me : Hid (InMem x12 (some ⟨x10.heap.size, 0, none⟩) (some ⟨x10.heap.size + 1, 0, none⟩) (some ⟨gx12, 0, none⟩) [1] [2] [false, false, true, false, false, false, false, false]) := inMem_lit (Sl.of_lit (t := 3) (xs := [1]) (ky11_0.below_ hx12 ky11_0.lt)) (Sl.of_lit (t := 3) (xs := [2]) (ky11_1.below_ hx12 ky11_1.lt)) sx12 (by simp) (by simp) (by simp) (by simp) (by simp)
  clear ky11_0 ky11_1 ky11_2 sx12 nx12
  have SV_x12 : Hid (Sl x12 (.int .i64) V1 [2, 1, 3]) := SV_y11.out.ext hx12
  clear SV_y11
  have HB_x12 : Hid (Below w.heap.size w x12) := HB_y11.out.trans (hx12.mono HB_y11.out.size)
  clear HB_y11
  go_wp2_with fail
  obtain ⟨y13, hy13⟩ : ∃ Y, (x12.alloc (.cells #[.int .i64 1] 3)) = Y := ⟨_, rfl⟩
  have by13 : Below x12.heap.size x12 y13 := by rw [← hy13]; exact (Below.refl _ _).alloc (Nat.le_refl _) _
  have ky13_0 : Blk y13 (x12.heap.size) 3 #[.int .i64 1] := by rw [← hy13]; exact Blk.new_ (by simp) rfl
  (try rw [hy13])
  clear hy13
  have SV_y13 : Hid (Sl y13 (.int .i64) V1 [2, 1, 3]) := SV_x12.out.ext by13
  clear SV_x12
  have Me_y13 : Hid (InMem y13 (some ⟨x10.heap.size, 0, none⟩) (some ⟨x10.heap.size + 1, 0, none⟩) (some ⟨gx12, 0, none⟩) [1] [2] [false, false, true, false, false, false, false, false]) := Me.out.ext by13
  clear Me
  have HB_y13 : Hid (Below w.heap.size w y13) := HB_x12.out.trans (by13.mono HB_x12.out.size)
  clear HB_x12
  refine (lists_any (some ⟨x12.heap.size, 0, none⟩) none none 1 0 1 0 0 ([] : List Int) _ Sl.nil (by simp) (by simp)).mono ?_
  rintro e x14 ⟨gx14, rfl, sx14, nx14, hx14⟩
  have Mf : Hid (InMem x14 (some ⟨x12.heap.size, 0, none⟩) none (some ⟨gx14, 0, none⟩) [1] ([] : List Int) [false, false, false, false, false, false, false, false]) := inMem_lit (Sl.of_lit (t := 3) (xs := [1]) (ky13_0.below_ hx14 ky13_0.lt)) Sl.nil sx14 (by simp) (by simp) (by simp) (by simp) (by simp)
  clear ky13_0 sx14 nx14
  have SV_x14 : Hid (Sl x14 (.int .i64) V1 [2, 1, 3]) := SV_y13.out.ext hx14
  clear SV_y13
  have Me_x14 : Hid (InMem x14 (some ⟨x10.heap.size, 0, none⟩) (some ⟨x10.heap.size + 1, 0, none⟩) (some ⟨gx12, 0, none⟩) [1] [2] [false, false, true, false, false, false, false, false]) := Me_y13.out.ext hx14
  clear Me_y13
  have HB_x14 : Hid (Below w.heap.size w x14) := HB_y13.out.trans (hx14.mono HB_y13.out.size)
  clear HB_y13
  go_wp2_with fail
  have Q15 : dirS [1] [2] [false, false, true, false, false, false, false, false] = ⟨[1], ([] : List Int), [false, false, false, false, false, false, false, false], 0⟩ ∧ dirF [1] [2] [false, false, true, false, false, false, false, false] = 2 := ⟨by kernel_rfl, by kernel_rfl⟩
  refine (directs_any (some ⟨x10.heap.size, 0, none⟩) (some ⟨x10.heap.size + 1, 0, none⟩) (some ⟨gx12, 0, none⟩) (some ⟨x12.heap.size, 0, none⟩) none (some ⟨gx14, 0, none⟩) 1 1 8 1 0 8 [1] [2] [1] ([] : List Int) [false, false, true, false, false, false, false, false] [false, false, false, false, false, false, false, false] 2 _ Me_x14.out Mf.out Q15 (by simp) (by simp) (by simp)).mono ?_
  rintro e x16 ⟨rfl, hx16⟩
  have SV_x16 : Hid (Sl x16 (.int .i64) V1 [2, 1, 3]) := SV_x14.out.ext hx16
  clear SV_x14
  have Me_x16 : Hid (InMem x16 (some ⟨x10.heap.size, 0, none⟩) (some ⟨x10.heap.size + 1, 0, none⟩) (some ⟨gx12, 0, none⟩) [1] [2] [false, false, true, false, false, false, false, false]) := Me_x14.out.ext hx16
  clear Me_x14
  have Mf_x16 : Hid (InMem x16 (some ⟨x12.heap.size, 0, none⟩) none (some ⟨gx14, 0, none⟩) [1] ([] : List Int) [false, false, false, false, false, false, false, false]) := Mf.out.ext hx16
  clear Mf
  have HB_x16 : Hid (Below w.heap.size w x16) := HB_x14.out.trans (hx16.mono HB_x14.out.size)
  clear HB_x14
  go_wp2_with fail
  clear Me_x16
  clear Mf_x16
  obtain ⟨y17, hy17⟩ : ∃ Y, (x16.alloc (.cells #[.int .i64 2, .int .i64 1, .int .i64 3] 3)) = Y := ⟨_, rfl⟩
  have by17 : Below x16.heap.size x16 y17 := by rw [← hy17]; exact (Below.refl _ _).alloc (Nat.le_refl _) _
  have ky17_0 : Blk y17 (x16.heap.size) 3 #[.int .i64 2, .int .i64 1, .int .i64 3] := by rw [← hy17]; exact Blk.new_ (by simp) rfl
  (try rw [hy17])
  clear hy17
  have SV_y17 : Hid (Sl y17 (.int .i64) V1 [2, 1, 3]) := SV_x16.out.ext by17
  clear SV_x16
  have HB_y17 : Hid (Below w.heap.size w y17) := HB_x16.out.trans (by17.mono HB_x16.out.size)
  clear HB_x16
  have qx18 := SameInts_any V1 (some ⟨x16.heap.size, 0, none⟩) Vc 3 [2, 1, 3] [2, 1, 3] _ SV_y17.out (Sl.of_lit (t := 3) (xs := [2, 1, 3]) ky17_0) (by simp) (by simp)
  rw [decide_eq_true rfl] at qx18
  refine (qx18).mono ?_
  rintro e x18 ⟨rfl, hx18⟩
  clear ky17_0 qx18
  have SV_x18 : Hid (Sl x18 (.int .i64) V1 [2, 1, 3]) := SV_y17.out.ext hx18
  clear SV_y17
  have HB_x18 : Hid (Below w.heap.size w x18) := HB_y17.out.trans (hx18.mono HB_y17.out.size)
  clear HB_y17
  go_wp2_with fail
  clear SV_x18
  go_ret
  exact ⟨by first | rfl | simp, HB_x18.out⟩
end Go.Proofs.Ytiobbdfkimpfbaa
