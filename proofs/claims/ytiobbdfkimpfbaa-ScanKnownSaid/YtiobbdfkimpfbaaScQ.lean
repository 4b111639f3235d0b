/- The law's own helpers: large, lists. -/
import Derived.Test.YtiobbdfkimpfbaaScO
import Derived.Test.YtiobbdfkimpfbaaScN
import Derived.Test.YtiobbdfkimpfbaaLruK
namespace Go.Proofs.Ytiobbdfkimpfbaa
open Go.RowKit Go.Maps

set_option maxRecDepth 100000 in
set_option maxHeartbeats 4000000 in
theorem large_any (A1 A2 A3 : Option Addr) (c1 c2 c3 n1 n2 n3 : Nat) (w : World) :
    Calls Try.prog 10 #[.agg #[.slice A1 n1 c1, .slice A2 n2 c2, .slice A3 n3 c3]] w fun e w' => e = .returned (.bool (decide (40 < n1 ∨ 40 < n2 ∨ 260 < n3))) ∧ Below w.heap.size w w' := by
  by_cases h1 : 40 < n1
  · rw [decide_eq_true (.inl h1)]
    have i1 : (40 : Int) < n1 := by omega
    go_enter Try.func10, Try.ntmps10
    go_wp2_with fail
    go_ret
    exact ⟨rfl, (Below.refl _ _).alloc (Nat.le_refl _) _⟩
  · by_cases h2 : 40 < n2
    · rw [decide_eq_true (.inr (.inl h2))]
      have i1 : ¬ (40 : Int) < n1 := by omega
      have i2 : (40 : Int) < n2 := by omega
      go_enter Try.func10, Try.ntmps10
      go_wp2_with fail
      go_ret
      exact ⟨rfl, (Below.refl _ _).alloc (Nat.le_refl _) _⟩
    · have i1 : ¬ (40 : Int) < n1 := by omega
      have i2 : ¬ (40 : Int) < n2 := by omega
      by_cases h3 : 260 < n3
      · rw [decide_eq_true (.inr (.inr h3))]
        have i3 : (260 : Int) < n3 := by omega
        go_enter Try.func10, Try.ntmps10
        go_wp2_with fail
        go_ret
        exact ⟨rfl, (Below.refl _ _).alloc (Nat.le_refl _) _⟩
      · rw [decide_eq_false (by omega)]
        have i3 : ¬ (260 : Int) < n3 := by omega
        go_enter Try.func10, Try.ntmps10
        go_wp2_with fail
        go_ret
        exact ⟨rfl, (Below.refl _ _).alloc (Nat.le_refl _) _⟩

/-- The marks of frames. -/
def refL (fs : List Int) : List Bool := fs.foldl (fun l f => l.set f.toNat true) (List.replicate 8 false)
theorem refL_len (fs : List Int) : (refL fs).length = 8 := by
  unfold refL
  rw [show ∀ (l : List Bool), (fs.foldl (fun l f => l.set f.toNat true) l).length = l.length from ?_]
  · simp
  · induction fs with
    | nil => intro l; rfl
    | cons f t ih => intro l; rw [List.foldl_cons, ih]; simp
theorem refL_snoc (fs : List Int) (f : Int) : refL (fs ++ [f]) = (refL fs).set f.toNat true := by unfold refL; rw [List.foldl_append]; rfl

set_option maxRecDepth 100000 in
set_option maxHeartbeats 4000000 in
theorem lists_any (A1 A2 A3 : Option Addr) (n1 n2 c1 c2 c3 : Nat) (fs : List Int) (w : World) (h : Sl w (.int .i64) A3 fs) (hf : ∀ f ∈ fs, 0 ≤ f ∧ f < 8) (hl : fs.length ≤ 1000) :
    Calls Try.prog 27 #[.slice A1 n1 c1, .slice A2 n2 c2, .slice A3 fs.length c3] w fun e w' =>
      ∃ b, e = .returned (.agg #[.slice A1 n1 c1, .slice A2 n2 c2, .slice (some ⟨b, 0, none⟩) 8 8]) ∧ Sl w' .bool (some ⟨b, 0, none⟩) (refL fs) ∧ w.heap.size ≤ b ∧ Below w.heap.size w w' := by
  have hmk := mk8
  have H := Lib.hid h; have HF := Lib.hid hf
  clear h hf
  go_enter Try.func27, Try.ntmps27
  go_wp2_with fail
  clear hmk
  go_loopw [8] (fun i wr => ∃ k : Nat, k ≤ fs.length ∧ i = .int .i64 k ∧ Hid (Blk wr (w.heap.size + 1) 4 ((refL (fs.take k)).map Value.bool).toArray) ∧ Hid (Blk wr (w.heap.size + 1 + 1) 25 #[.slice A1 n1 c1, .slice A2 n2 c2, .slice (some ⟨w.heap.size + 1, 0, none⟩) 8 8]) ∧
    Hid (Blk wr w.heap.size 25 #[.slice none 0 0, .slice none 0 0, .slice none 0 0]) ∧ Hid (Below w.heap.size w wr)) (fun i _ => fs.length - (intOf i).toNat)
  case atStart =>
    refine ⟨0, Nat.zero_le _, rfl, ?_, ?_, ?_, ?_⟩
    · show Blk _ _ _ _; exact (Blk.new_ (by simp) rfl).alloc_ _
    · show Blk _ _ _ _; exact Blk.new_ (by simp) rfl
    · show Blk _ _ _ _; exact ((Blk.new_ rfl rfl).alloc_ _).alloc_ _
    · show Below _ _ _; exact (((Below.refl _ _).alloc (Nat.le_refl _) _).alloc (by simp) _).alloc (by simp; omega) _
  case round =>
    obtain ⟨k, hk, rfl, K1, K2, K0, HB⟩ := hrel
    by_cases hlt : k < fs.length
    · obtain ⟨b, off, f, rfl, hb, hx, hc⟩ := (H.out.ext HB.out).at_ hlt
      have hf2 := HF.out f (List.mem_of_getElem? hx)
      have HEX : Hid (refL (fs.take (k + 1)) = (refL (fs.take k)).set f.toNat true) := by
        show _ = _
        rw [List.take_add_one, hx]
        exact refL_snoc _ _
      obtain ⟨G, rfl⟩ : ∃ G : Nat, f = G := ⟨f.toNat, by omega⟩
      have hG : (G : Int) < 8 := hf2.2
      have hG8 : G < (refL (fs.take k)).length := by rw [refL_len]; omega
      have i1 : (k : Int) < fs.length := by omega
      have q2 : wr.cell? ⟨w.heap.size + 1 + 1, 2, none⟩ = some (.slice (some ⟨w.heap.size + 1, 0, none⟩) 8 8) := (K2.out.cell_ 2).trans (by simp)
      have m0 : wr.cell? ⟨w.heap.size + 1, G, none⟩ = some (.bool ((refL (fs.take k))[G])) := (K1.out.cell_ G).trans (by simp [hG8])
      have g0 := K1.out.frozen_ G
      have hwk : IntKind.i64.wrap (k : Int) = k := by rw [IntKind.wrap_i64]; omega
      have hwg : IntKind.i64.wrap (G : Int) = G := by rw [IntKind.wrap_i64]; omega
      have hbw : b < wr.heap.size := hb
      clear hx
      go_wp2_with fail
      go_region
      all_goals
        go_wp2_with fail
        go_roundw
        case rel =>
          refine ⟨k + 1, by omega, by go_num, ?_, ?_, ?_, ?_⟩
          · show Blk _ _ _ _
            rw [HEX.out, List.map_set]
            have := K1.out.set_ G (.bool true)
            exact Blk.drew_ (by simpa using this)
          · exact Blk.drew_ (K2.out.far_ (by simp) _)
          · exact Blk.drew_ (K0.out.far_ (by simp) _)
          · exact (HB.out.setCell (p := ⟨w.heap.size + 1, G, none⟩) (show w.heap.size ≤ w.heap.size + 1 by omega) _).drew
        case measure => simp [intOf]; omega
    · obtain rfl : k = fs.length := by omega
      rw [List.take_length] at K1
      have q0 : wr.cell? ⟨w.heap.size + 1 + 1, 0, none⟩ = some (.slice A1 n1 c1) := (K2.out.cell_ 0).trans (by simp)
      have q1 : wr.cell? ⟨w.heap.size + 1 + 1, 1, none⟩ = some (.slice A2 n2 c2) := (K2.out.cell_ 1).trans (by simp)
      have q2 : wr.cell? ⟨w.heap.size + 1 + 1, 2, none⟩ = some (.slice (some ⟨w.heap.size + 1, 0, none⟩) 8 8) := (K2.out.cell_ 2).trans (by simp)
      have y0 : wr.cell? ⟨w.heap.size, 0, none⟩ = some (.slice none 0 0) := (K0.out.cell_ 0).trans (by simp)
      have y1 : wr.cell? ⟨w.heap.size, 1, none⟩ = some (.slice none 0 0) := (K0.out.cell_ 1).trans (by simp)
      have y2 : wr.cell? ⟨w.heap.size, 2, none⟩ = some (.slice none 0 0) := (K0.out.cell_ 2).trans (by simp)
      have g0 := K0.out.frozen_ 0
      have g1 := K0.out.frozen_ 1
      have g2 := K0.out.frozen_ 2
      go_wp2_with fail
      refine bodyPost_ret (v := .agg #[.slice A1 n1 c1, .slice A2 n2 c2, .slice (some ⟨w.heap.size + 1, 0, none⟩) 8 8]) (by simp [results, Try.results27, go_sem, y0, y1, y2]) rfl ?_
      refine ⟨w.heap.size + 1, rfl, ?_, by omega, ((HB.out.setCell (p := ⟨w.heap.size, 0, none⟩) (Nat.le_refl _) _).setCell (p := ⟨w.heap.size, 1, none⟩) (Nat.le_refl _) _).setCell (p := ⟨w.heap.size, 2, none⟩) (Nat.le_refl _) _⟩
      have hS : Sl wr .bool (some ⟨w.heap.size + 1, 0, none⟩) (refL fs) := Sl.of_blk K1.out fun j x hx => by simp [hx]
      exact ((hS.far_ (fun g e => by simp at e; omega) _ _).far_ (fun g e => by simp at e; omega) _ _).far_ (fun g e => by simp at e; omega) _ _
end Go.Proofs.Ytiobbdfkimpfbaa
