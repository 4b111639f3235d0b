/- slices.Collect, slices.Sorted over an iterator that reads memory; held.Frames. -/
import Derived.Test.YtnglompninkmbaaSort
import Derived.Test.YtnglompninkmbaaHeldY
import Derived.Sort.OwnSorted
import Derived.Lib.SlKeysI
namespace Go.Proofs.Ytnglompninkmbaa
open Go.RowKit Go.Maps
open Go.Shelf Go.Sort
attribute [local go_sem] Oper.semAt_some

set_option maxHeartbeats 1000000 in
theorem collect_in (F : Fence) (n : Nat) (h8 : F.fn 49) (h11 : F.fn 53) (hro : F.round = none) (hn : 3 ≤ n) (gf : Nat) (lb : Array Value) (hFg : F.fn gf) (eg : ∀ args w, (callFunc gf args).run Try.prog w = .ok (.enter gf args) w)
    (S Sp : List Int → Prop) (N : Nat) (hN : N ≤ 1000) (w : World) (hseq : SeqStopsK F (n - 1 - 1) Try.prog gf lb (fun x : Int => #[.int .i64 x]) (Below w.heap.size) S Sp N w) :
    CallsIn F n Try.prog 49 #[.func (.func gf) #[] lb] w fun e w' => ∃ (v : Value) (ss : List Int), e = .returned v ∧ S ss ∧ w'.ownsRow w.heap.size 3 1 v ss.length (ss.map (.int .i64)) ∧ Below w.heap.size w w' := by
  have h1 : 1 ≤ n := by omega
  refine callsIn_of_wp Try.func49 rfl h8 ?_ hro
  simp only [Try.ntmps49, List.size_toArray, List.length_cons, List.length_nil, Nat.reduceAdd, Nat.reduceSub, Array.replicate_succ, Array.replicate_zero, List.push_toArray, List.append_toArray, List.nil_append, List.cons_append]
  gi_wp2_with (gi_at_call 53; refine (appendSeq_in F (n - 1) h11 hro (by omega) gf lb hFg eg S Sp N hN _ hseq).mono ?_; rintro e w' ⟨v, ss, rfl, hS, hrow, hb⟩)
  go_ret
  exact ⟨v, ss, rfl, hS, hrow, hb⟩

/-- A list of ints, sorted. -/
def srt (ss : List Int) : List Int := ss.mergeSort fun x y => decide (x ≤ y)
set_option maxHeartbeats 2000000 in
theorem sorted_w (n : Nat) (hn : 4 ≤ n) (gf : Nat) (lb : Array Value) (eg : ∀ args w, (callFunc gf args).run Try.prog w = .ok (.enter gf args) w)
    (S Sp : List Int → Prop) (N : Nat) (hN : N ≤ 1000) (hSN : ∀ ss, S ss → ss.length ≤ 1000) (w : World) (hseq : SeqStopsK Fence.wide (n - 1 - 1 - 1) Try.prog gf lb (fun x : Int => #[.int .i64 x]) (Below w.heap.size) S Sp N w) :
    CallsIn Fence.wide n Try.prog 46 #[.func (.func gf) #[] lb] w fun e w' => ∃ A c ss, e = .returned (.slice A ss.length c) ∧ S ss ∧ Sl w' (.int .i64) A (srt ss) ∧ Below w.heap.size w w' := by
  have h1 : 1 ≤ n := by omega
  refine callsIn_of_wp Try.func46 rfl trivial ?_ rfl
  simp only [Try.ntmps46, List.size_toArray, List.length_cons, List.length_nil, Nat.reduceAdd, Nat.reduceSub, Array.replicate_succ, Array.replicate_zero, List.push_toArray, List.append_toArray, List.nil_append, List.cons_append]
  have hfc : Fence.wide.fn 49 := trivial
  have hfs : Fence.wide.fn 50 := trivial
  gi_wp2_with (gi_at_call 49; refine (collect_in Fence.wide (n - 1) trivial trivial rfl (by omega) gf lb trivial eg S Sp N hN _ hseq).mono ?_; rintro e W ⟨v, ss, rfl, hS, hrow, hb⟩)
  rcases hrow.2 with ⟨rfl, hz⟩ | ⟨gb, cap, cur, rfl, hbase, hgb, r1, r2, r3, r4⟩
  · have hss : ss = [] := List.eq_nil_of_length_eq_zero hz
    subst hss
    gi_wp2_with (gi_at_call 50; refine (callsIn_wide.2 (sort_none none 0 W)).mono ?_; rintro e w' ⟨rfl, rfl⟩)
    go_ret
    exact ⟨none, 0, [], rfl, hS, by simp [srt]; exact Sl.nil, hb⟩
  · have hH : Holds (Value.int .i64) W gb 0 ss.toArray := holds_of_block_i hgb (by simpa using r4)
    have hgl : gb < W.heap.size := (Array.getElem?_eq_some_iff.1 hgb).1
    have hsz : ss.length < 4611686018427387904 := by have := hSN ss hS; omega
    have cS := callsIn_wide (n := n - 1).2 (sort_any gb 0 cap ss W hH hgl hsz)
    gi_wp2_with (gi_at_call 50; refine cS.mono ?_; rintro e w' ⟨rfl, nn, os, rfl⟩)
    go_ret
    have hsl : (srt ss).length = ss.length := by simp [srt]
    have ho := ownsRow_sorted_i (n := nn) (os := os) (ts := srt ss) hsl hbase hgb r1 r2 r3
    have hO : Own (grow (putRow (Value.int .i64) (Sort.ahead W nn) gb 0 (srt ss).toArray) os) w.heap.size 3 (.int .i64) (.slice (some ⟨gb, 0, none⟩) ss.length cap) (srt ss) := by
      show World.ownsRow _ _ _ _ _ _ _
      rw [hsl]
      exact ho
    obtain ⟨A', c', e', hs'⟩ := hO.sl
    injection e' with e1 e2 e3
    subst e1 e3
    exact ⟨_, cap, ss, rfl, hS, hs', hb.grown (grownBy_sorted_i _) hb.size (fun j hj => by cases hj; exact hbase)⟩

/-- What Frames of held hands back. -/
def hfrS (l : List Wr) : List Int × Int := if (chkS l).1 ≠ 0 then ([], (chkS l).1) else (srt (frs l), 0)
set_option maxRecDepth 100000 in
set_option maxHeartbeats 2000000 in
theorem Frames_any (A : Option Addr) (c : Nat) (l : List Wr) (w : World) (ha : SW w A l) (la : l.length ≤ 1000) :
    Calls Try.prog 29 #[.slice A l.length c] w (FrPost (hfrS l) w) := by
  have HS := Lib.hid ha
  clear ha
  obtain ⟨⟨z, n⟩, hk⟩ : ∃ r, chkS l = r := ⟨_, rfl⟩
  have HK := Lib.hid hk
  by_cases hz : z = 0
  · subst hz
    have HF : Hid (hfrS l = (srt (frs l), 0)) := by show _ = _; unfold hfrS; rw [hk, if_neg (by simp)]
    clear hk
    refine (callsIn_wide (n := 6)).1 ?_
    refine callsIn_of_wp Try.func29 rfl trivial ?_ rfl
    simp only [Try.ntmps29, List.size_toArray, List.length_cons, List.length_nil, Nat.reduceAdd, Nat.reduceSub, Array.replicate_succ, Array.replicate_zero, List.push_toArray, List.append_toArray, List.nil_append, List.cons_append]
    have f1 : Fence.wide.fn 16 := trivial
    have f2 : Fence.wide.fn 47 := trivial
    have f3 : Fence.wide.fn 46 := trivial
    gi_wp2_with (first | (gi_at_call 16; refine (callsIn_wide.2 (Check_any A c l w HS.out la HK.out)).mono ?_; rintro e w1 ⟨rfl, hb1⟩) | (gi_at_call 47; refine (under_in Fence.wide _ trivial rfl A l.length c w1).mono ?_; rintro e w2 ⟨rfl, rfl⟩))
    obtain ⟨W, hW⟩ : ∃ W, w1.alloc (.cells #[.slice A l.length c] 23) = W := ⟨_, rfl⟩
    have BW : Below w1.heap.size w1 W := by rw [← hW]; exact (Below.refl _ _).alloc (Nat.le_refl _) _
    have kb : Blk W w1.heap.size 23 #[.slice A l.length c] := by rw [← hW]; exact Blk.new_ rfl rfl
    rw [hW]
    clear hW
    have hseq := under_stops Fence.wide 2 trivial rfl (by omega) w1.heap.size A c l W ((HS.out.ext hb1).ext BW) la kb
    refine (sorted_w 5 (by omega) 51 #[.pointer (some ⟨w1.heap.size, 0, none⟩)] (enters_of Try.func51 (by kernel_rfl) rfl) _ _ _ la (fun ss h => by rw [h]; simpa [frs] using la) W hseq).mono ?_
    rintro e w3 ⟨A3, c3, ss, rfl, rfl, hsl, hb3⟩
    gi_wp2
    refine bodyPost_ret (v := .tuple #[.slice A3 (frs l).length c3, .int .i64 0]) (by simp [results, Try.results29, go_sem]) rfl ?_
    unfold FrPost
    rw [HF.out]
    exact ⟨A3, c3, by simp [srt], hsl, hb1.trans ((BW.trans (hb3.mono BW.size)).mono hb1.size)⟩
  · have HF : Hid (hfrS l = ([], z)) := by show _ = _; unfold hfrS; rw [hk, if_pos hz]
    have hzb : (z != 0) = true := by simpa using hz
    clear hk
    go_enter Try.func29, Try.ntmps29
    go_wp2_with (first | (go_at_call 16; with_reducible refine (Check_any _ _ _ _ HS.out la HK.out).mono ?_; rintro e w1 ⟨rfl, hb1⟩))
    refine bodyPost_ret (v := .tuple #[.slice none 0 0, .int .i64 z]) (by simp [results, Try.results29, go_sem]) rfl ?_
    unfold FrPost
    rw [HF.out]
    exact ⟨none, 0, rfl, Sl.nil, hb1⟩
end Go.Proofs.Ytnglompninkmbaa
