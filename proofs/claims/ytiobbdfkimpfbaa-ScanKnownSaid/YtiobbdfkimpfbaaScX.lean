/- The library's slices.Grow, slices.Concat of two lists; slices.DeleteFunc where nothing is struck. -/
import Derived.Test.YtiobbdfkimpfbaaScW
import Derived.Test.YtiobbdfkimpfbaaApp
namespace Go.Proofs.Ytiobbdfkimpfbaa
open Go.RowKit Go.Maps

set_option maxRecDepth 100000 in
set_option maxHeartbeats 4000000 in
theorem grow_nil (n : Nat) (hn : n ≤ 100000) (w : World) :
    Calls Try.prog 76 #[.slice none 0 0, .int .i64 n] w fun e w' => ∃ A c, e = .returned (.slice A 0 c) ∧ Own w' w.heap.size 3 (.int .i64) (.slice A 0 c) ([] : List Int) ∧ Below w.heap.size w w' := by
  obtain ⟨i0, hi0, hz0, hz1, hz2⟩ := info_parts intInfo
  by_cases h0 : n = 0
  · subst h0
    go_enter Try.func76, Try.ntmps76
    go_wp2_with fail
    go_ret
    exact ⟨none, 0, rfl, World.ownsRow_nil _ _ _ _, Below.refl _ _⟩
  · have hp : (0 : Int) < n := by omega
    have hp2 : 0 < n := by omega
    have hn0 : ¬ (n : Int) < 0 := by omega
    clear h0
    go_enter Try.func76, Try.ntmps76
    go_wp2_with (at_builtin; refine Lib.wpList_append_run _ rfl _ _ _ _ rfl _ _ rfl rfl _ _ (Lib.run_append_nil_zeros _ 22 3 _ 3 i0 (.int .i64 0) .i64 .i64 Try.underlying22 Try.underlying3 hi0 hz0 n hp2 (by rw [hz1]; decide) (by omega) (by rw [hz2]; omega)) ?_)
    go_ret
    have c1 := grownCap_ge w n 0 3
    have c2 := grownCap_le_maxLen w n 0 3 (by unfold maxLen; omega)
    generalize grownCap w n 0 3 = cap at *
    have hs : (Builtin.zeroCells #[Value.int .i64 0] n ++ Builtin.zeroCells #[Value.int .i64 0] (cap - n)).size = cap := by
      simp [Builtin.zeroCells]; omega
    refine ⟨some ⟨w.heap.size, 0, none⟩, cap, rfl, ?_, ((Below.refl _ _).alloc (Nat.le_refl _) _).drew⟩
    have hB : Blk (w.alloc (.cells (Builtin.zeroCells #[Value.int .i64 0] n ++ Builtin.zeroCells #[Value.int .i64 0] (cap - n)) 3)).drew w.heap.size 3 (Builtin.zeroCells #[Value.int .i64 0] n ++ Builtin.zeroCells #[Value.int .i64 0] (cap - n)) := Blk.drew_ (Blk.new_ rfl rfl)
    have := Own.of_blk (mk := Value.int .i64) (xs := ([] : List Int)) hB (Nat.le_refl _) (Nat.zero_le _) (by rw [hs]; exact c2) (fun j x h => by simp at h)
    rw [hs] at this
    exact this

set_option maxRecDepth 100000 in
set_option maxHeartbeats 4000000 in
theorem concat_two (b : Nat) (A1 A2 : Option Addr) (c1 c2 : Nat) (xs ys : List Int) (w : World) (hb : Blk w b 22 #[.slice A1 xs.length c1, .slice A2 ys.length c2]) (h1 : Sl w (.int .i64) A1 xs) (h2 : Sl w (.int .i64) A2 ys) (l1 : xs.length ≤ 1000) (l2 : ys.length ≤ 1000) :
    Calls Try.prog 55 #[.slice (some ⟨b, 0, none⟩) 2 2] w fun e w' => ∃ A c, e = .returned (.slice A (xs ++ ys).length c) ∧ Own w' w.heap.size 3 (.int .i64) (.slice A (xs ++ ys).length c) (xs ++ ys) ∧ Below w.heap.size w w' := by
  obtain ⟨i0, hi0, hz0, hz1, hz2⟩ := info_parts intInfo
  have HB := Lib.hid hb; have H1 := Lib.hid h1; have H2 := Lib.hid h2
  have q0 : w.cell? ⟨b, 0, none⟩ = some (.slice A1 xs.length c1) := (hb.cell_ 0).trans (by simp)
  have q1 : w.cell? ⟨b, 1, none⟩ = some (.slice A2 ys.length c2) := (hb.cell_ 1).trans (by simp)
  have hlt := hb.lt
  have n0 : ¬ (xs.length : Int) < 0 := by omega
  have n1 : ¬ (xs.length : Int) + ys.length < 0 := by omega
  clear hb h1 h2
  go_enter Try.func55, Try.ntmps55
  go_wp2_with fail
  refine wp_loop_rounds 3 ?_
  rw [rounds_succ]
  go_wp2_with fail
  rw [rounds_succ]
  go_wp2_with fail
  rw [rounds_succ]
  go_wp2_with fail
  have hg := grow_nil (xs.length + ys.length) (by omega) w
  rw [Int.natCast_add] at hg
  refine hg.mono ?_
  rintro e x1 ⟨A, c, rfl, ho, hx1⟩
  have HO := Lib.hid ho; have HX := Lib.hid hx1
  have p0 := cell_keep hx1 q0 hlt
  have p1 := cell_keep hx1 q1 hlt
  have hz := hx1.size
  clear ho hx1 q0 q1 n0 n1 hg
  go_wp2_with fail
  refine wp_loop_rounds 3 ?_
  rw [rounds_succ]
  go_wp2_with (at_builtin; refine wpList_appS _ rfl (.tmp 31) (.tmp 32) _ rfl 3 i0 (.int .i64 0) 8 Try.underlying22 hi0 hz0 hz1 hz2 rfl w.heap.size A c ([] : List Int) rfl HO.out A1 c1 xs rfl (H1.out.ext HX.out) (int_one xs) (by simp; omega) (by simp; omega) (by omega) ?_; intro A' c' w2 ho2 hg2 _)
  have HX2 : Hid (Below w.heap.size w w2) := HX.out.grown hg2 (by omega) (fun k e => (HO.out.block k e).1)
  have HO2 : Hid (Own w2 w.heap.size 3 (.int .i64) (.slice A' xs.length c') xs) := ho2
  have p0' := cell_keep HX2.out ((HB.out.cell_ 0).trans (by simp; rfl)) hlt
  have p1' := cell_keep HX2.out ((HB.out.cell_ 1).trans (by simp; rfl)) hlt
  have hz2' := HX2.out.size
  clear ho2 hg2 p0 p1
  (try simp only [List.nil_append])
  rw [rounds_succ]
  go_wp2_with (at_builtin; refine wpList_appS _ rfl (.tmp 31) (.tmp 32) _ rfl 3 i0 (.int .i64 0) 8 Try.underlying22 hi0 hz0 hz1 hz2 rfl w.heap.size A' c' xs rfl HO2.out A2 c2 ys rfl (H2.out.ext HX2.out) (int_one ys) (by omega) (by omega) (by omega) ?_; intro A'' c'' w3 ho3 hg3 _)
  have HX3 : Hid (Below w.heap.size w w3) := HX2.out.grown hg3 (by omega) (fun k e => (HO2.out.block k e).1)
  have HO3 := Lib.hid ho3
  clear ho3 hg3 p0' p1'
  rw [rounds_succ]
  go_wp2_with fail
  go_ret
  exact ⟨A'', c'', by rw [List.length_append]; rfl, HO3.out, HX3.out⟩

set_option maxRecDepth 100000 in
set_option maxHeartbeats 4000000 in
theorem has_mem (b : Nat) (mv : List Int) (f : Int) (w : World) (hw : ∀ q : Nat, q < 4 → w.cell? ⟨b, 5 + q, none⟩ = some (.int .u64 (wrd q mv))) (f0 : 0 ≤ f) (f1 : f < 256) (hm : ∀ g ∈ mv, 0 ≤ g) :
    Calls Try.prog 57 #[.pointer (some ⟨b, 5, none⟩), .int .i64 f] w fun e w' => e = .returned (.bool (decide (f ∈ mv))) ∧ w = w' := by
  obtain ⟨q, r, hq, hr, rfl⟩ : ∃ q r : Nat, q < 4 ∧ r < 64 ∧ f = 64 * (q : Int) + r := ⟨f.toNat / 64, f.toNat % 64, by omega, by omega, by omega⟩
  have := has_any b 5 q r (wrd q mv) w hq hr (hw q hq) (wrd_lt q mv)
  rw [wrd_has hr hm] at this
  simpa using this

set_option maxRecDepth 100000 in
set_option maxHeartbeats 4000000 in
theorem indexFunc_none (b : Nat) (mv : List Int) (A : Option Addr) (c : Nat) (xs : List Int) (w : World) (h : Sl w (.int .i64) A xs) (hl : xs.length ≤ 1000) (hw : ∀ q : Nat, q < 4 → w.cell? ⟨b, 5 + q, none⟩ = some (.int .u64 (wrd q mv)))
    (hx : ∀ x ∈ xs, 0 ≤ x ∧ x < 256) (hm : ∀ g ∈ mv, 0 ≤ g) (hn : ∀ x ∈ xs, x ∉ mv) :
    Calls Try.prog 77 #[.slice A xs.length c, .func (.func 57) #[.pointer (some ⟨b, 5, none⟩)] #[]] w fun e w' => e = .returned (.int .i64 (-1)) ∧ w = w' := by
  have H := Lib.hid h; have HW := Lib.hid hw; have HX := Lib.hid hx; have HMM := Lib.hid hm; have HN := Lib.hid hn
  clear h hw hx hm hn
  go_enter Try.func77, Try.ntmps77
  go_wp2_with fail
  go_loopw [5, 8] (fun _ i wr => ∃ k : Nat, k ≤ xs.length ∧ i = .int .i64 k ∧ w = wr) (fun _ i _ => xs.length - (intOf i).toNat)
  case atStart => exact ⟨0, Nat.zero_le _, rfl, rfl⟩
  case round =>
    obtain ⟨k, hk, rfl, rfl⟩ := hrel
    by_cases hlt : k < xs.length
    · obtain ⟨bb, off, x, rfl, hb, hx, hc⟩ := H.out.at_ hlt
      have i1 : (k : Int) < xs.length := by omega
      have hxr := HX.out x (List.mem_of_getElem? hx)
      have hxn := HN.out x (List.mem_of_getElem? hx)
      clear hx
      go_wp2_with fail
      refine (has_mem b mv x w HW.out hxr.1 hxr.2 HMM.out).mono ?_
      rw [decide_eq_false hxn]
      rintro e y ⟨rfl, rfl⟩
      clear hxn hxr
      go_wp2_with fail
      go_roundw
      case rel => exact ⟨k + 1, by omega, by go_num, by first | rfl | trivial⟩
      case measure => simp [intOf]; omega
    · obtain rfl : k = xs.length := by omega
      go_wp2_with fail
      go_ret
      exact ⟨rfl, rfl⟩

set_option maxRecDepth 100000 in
set_option maxHeartbeats 4000000 in
theorem deleteFunc_none (b : Nat) (mv : List Int) (A : Option Addr) (c : Nat) (xs : List Int) (w : World) (h : Sl w (.int .i64) A xs) (hl : xs.length ≤ 1000) (hw : ∀ q : Nat, q < 4 → w.cell? ⟨b, 5 + q, none⟩ = some (.int .u64 (wrd q mv)))
    (hx : ∀ x ∈ xs, 0 ≤ x ∧ x < 256) (hm : ∀ g ∈ mv, 0 ≤ g) (hn : ∀ x ∈ xs, x ∉ mv) :
    Calls Try.prog 56 #[.slice A xs.length c, .func (.func 57) #[.pointer (some ⟨b, 5, none⟩)] #[]] w fun e w' => e = .returned (.slice A xs.length c) ∧ w = w' := by
  have H := Lib.hid (indexFunc_none b mv A c xs w h hl hw hx hm hn)
  clear h hw hx hm hn
  go_enter Try.func56, Try.ntmps56
  go_wp2_with fail
  refine H.out.mono ?_
  rintro e y ⟨rfl, rfl⟩
  go_wp2_with fail
  go_ret
  exact ⟨rfl, rfl⟩
end Go.Proofs.Ytiobbdfkimpfbaa
