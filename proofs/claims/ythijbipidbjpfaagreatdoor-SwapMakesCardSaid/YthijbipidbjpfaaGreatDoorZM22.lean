import Derived.Test.YthijbipidbjpfaaGreatDoorZM20
import Derived.Test.YthijbipidbjpfaaGreatDoorZM21
import Derived.Test.YthijbipidbjpfaaGreatDoorZM00
import Derived.Test.YthijbipidbjpfaaGreatDoorZM03
import Derived.ProofKit
import Derived.OpenShut
import Derived.Lib.SmallJoins
import Derived.Test.YthijbipidbjpfaaGreatDoorTie
import Derived.Test.YthijbipidbjpfaaGreatDoorCards
import Derived.Test.YthijbipidbjpfaaGreatDoorZM07
import Derived.LaidMore
import Derived.Stop.Joined
import Derived.ChangeSame
set_option linter.unusedSimpArgs false
set_option linter.unusedVariables false
set_option maxRecDepth 100000
set_option maxHeartbeats 8000000
namespace Go.Proofs.YthijbipidbjpfaaGreatDoor
open Go.RowKit Go.Maps
theorem new_few {N room most : Int} (h : N ≤ 40 ∨ 256 < N) : Few (newW N room most).1 := by
 have z : Few .zero := ⟨by decide, by decide, by decide, by decide, by decide, by decide, by decide, by decide⟩
 unfold newW
 split
 ·exact z
 split
 ·exact z
 split
 ·exact z
 split
 ·exact z
 rename_i h1 h2 h3 h4
 have hT : ¬ (N < 1 ∨ 256 < N) := fun e => h2 (by unfold newT; rw [if_pos e]; simp)
 have hD : ¬ (N < 1 ∨ 256 < N ∨ room < 1 ∨ 32 < room) := fun e => h3 (by unfold newD; rw [if_pos e]; simp)
 unfold newT newD newP
 rw [if_neg hT, if_neg hD, if_neg (by omega)]
 exact ⟨by simp; omega, by simp; omega, by simp, by simp, by simp, by simp; omega, by simp, by simp; omega⟩
theorem swapMakes_walk (N room most : Int) (_h0 : (Lit.int .i64 N).wf = true) (_h1 : (Lit.int .i64 room).wf = true) (_h2 : (Lit.int .i64 most).wf = true) (w : World) (hz : TZ w) :
  Calls Tryz.prog 4 #[.int .i64 N, .int .i64 room, .int .i64 most] w fun e w' => e = .returned (.bool true) ∧ Below w.heap.size w w' := by
 have HTZ := Lib.hid hz
 have HW0 : 0 < w.heap.size := hz.pos
 clear hz _h0 _h1 _h2
 by_cases hn : N ≤ 40 ∨ 256 < N
 ·obtain ⟨⟨S, x⟩, hS⟩ : ∃ q, newW N room most = q := ⟨_, rfl⟩
  have HF : Hid (Few S) := by have := new_few (room := room) (most := most) hn; rw [hS] at this; exact this
  have hA := fun V => SwNew_any N room most V hn
  have hB := fun V => rNew_any N room most V hn
  rw [hS] at hA hB
  replace hA := Lib.hid hA
  replace hB := Lib.hid hB
  have hx : (x == x) = true := by simp
  clear hS
  have key : (decide (N > 40) = false ∧ True) ∨ (decide (N > 40) = true ∧ decide (N ≤ 256) = false) := by
   rcases hn with h | h
   ·exact .inl ⟨by simpa using h, trivial⟩
   ·exact .inr ⟨by simp; omega, by simp; omega⟩
  clear hn
  go_enter Tryz.func4, Tryz.ntmps4
  go_upto_region 1 with fail
  go_cut [16] from 11 to 15 (fun v wx => v = .bool false ∧ wx = w)
  case first =>
   rcases key with ⟨k1, _⟩ | ⟨k1, k2⟩
   ·go_wp2_with fail
    go_meet
    exact ⟨rfl, rfl⟩
   ·go_wp2_with fail
    go_meet
    exact ⟨rfl, rfl⟩
  case rest =>
   obtain ⟨rfl, hwc⟩ := hcut
   have hwc := hwc.symm
   subst hwc
   clear key
   go_wp2_with fail
   refine (hA.out _).mono ?_
   rintro e1 w1 ⟨⟨a0, c0, a1, c1, a2, c2, a3, c3, a4, c4, a5, c5, a6, c6, a7, c7⟩, rfl, oa, hb1⟩
   unfold swV swC
   dsimp only
   go_upto_region 4 with fail
   obtain ⟨V1, hV⟩ : ∃ V, w1.alloc (.cells (zkx S a0 c0 a1 c1 a2 c2 a3 c3 a4 c4 a5 c5 a6 c6 a7 c7).toArray 35) = V := ⟨_, rfl⟩
   obtain ⟨Ba, hBe⟩ : ∃ B, w1.heap.size = B := ⟨_, rfl⟩
   have ka : Blk V1 Ba 35 (zkx S a0 c0 a1 c1 a2 c2 a3 c3 a4 c4 a5 c5 a6 c6 a7 c7).toArray := by rw [← hV, ← hBe]; exact Blk.new_ rfl rfl
   have hbV := zab hV
   have HSa : Hid (SwR V1 ⟨a0, c0, a1, c1, a2, c2, a3, c3, a4, c4, a5, c5, a6, c6, a7, c7⟩ S) := oa.sw.ext hbV
   have B1 := zbt hb1 hbV
   rw [hV, hBe]
   clear hV oa hb1 hbV hBe
   go_wp2_with fail
   refine (hB.out _).mono ?_
   rintro e2 w2 ⟨⟨b0, k0, b1, k1, b2, k2, b3, k3, b4, k4, b5, k5, b6, k6, b7, k7⟩, rfl, ob, hb2⟩
   unfold swV swC
   dsimp only
   go_upto_region 5 with fail
   obtain ⟨V2, hV⟩ : ∃ V, w2.alloc (.cells (zkx S b0 k0 b1 k1 b2 k2 b3 k3 b4 k4 b5 k5 b6 k6 b7 k7).toArray 35) = V := ⟨_, rfl⟩
   obtain ⟨Bb, hBe⟩ : ∃ B, w2.heap.size = B := ⟨_, rfl⟩
   have kb : Blk V2 Bb 35 (zkx S b0 k0 b1 k1 b2 k2 b3 k3 b4 k4 b5 k5 b6 k6 b7 k7).toArray := by rw [← hV, ← hBe]; exact Blk.new_ rfl rfl
   have hbV := zab hV
   have HSb : Hid (SwR V2 ⟨b0, k0, b1, k1, b2, k2, b3, k3, b4, k4, b5, k5, b6, k6, b7, k7⟩ S) := ob.sw.ext hbV
   have hb12 := hb2.trans (hbV.mono hb2.size)
   replace ka := ka.below_ hb12 ka.lt
   replace HSa := Lib.hid (HSa.out.ext hb12)
   have B2 := zbt B1 hb12
   rw [hV, hBe]
   clear hV ob hb2 hbV hBe hb12
   have HC := Lib.hid (sameSwap_refl ⟨a0, c0, a1, c1, a2, c2, a3, c3, a4, c4, a5, c5, a6, c6, a7, c7⟩ ⟨b0, k0, b1, k1, b2, k2, b3, k3, b4, k4, b5, k5, b6, k6, b7, k7⟩ S V2 HSa.out HSb.out HF.out)
   have za := ka.lt
   have zb := kb.lt
   obtain ⟨q0, q1, q2, q3, q4, q5, q6, q7, q8, q9, q10⟩ := zc11 ka
   obtain ⟨s0, s1, s2, s3, s4, s5, s6, s7, s8, s9, s10⟩ := zc11 kb
   go_wp2_with fail
   refine HC.out.mono ?_
   rintro e3 w3 ⟨rfl, hb3⟩
   have B3 := B2.trans (hb3.mono B2.size)
   clear za zb q0 s0 q1 s1 q2 s2 q3 s3 q4 s4 q5 s5 q6 s6 q7 s7 q8 s8 q9 s9 q10 s10
   go_wp2_with fail
   refine (awake_any w3 (HTZ.out.ext HW0 B3)).mono ?_
   rintro e4 w4 ⟨rfl, hb4⟩
   go_wp2_with fail
   go_ret
   exact ⟨rfl, B3.trans (hb4.mono B3.size)⟩
 ·have g1 : decide (N > 40) = true := by simp; omega
  have g2 : decide (N ≤ 256) = true := by simp; omega
  clear hn
  go_enter Tryz.func4, Tryz.ntmps4
  go_wp2_with fail
  refine (awake_any w HTZ.out).mono ?_
  rintro e w1 ⟨rfl, hb⟩
  go_wp2_with fail
  go_ret
  exact ⟨rfl, hb⟩
end Go.Proofs.YthijbipidbjpfaaGreatDoor
namespace Go.Proofs.YthijbipidbjpfaaGreatDoor
open Go.RowKit Go.Maps
open Go.ChangeShapes Go.WideShapes Go.ChangeAt
theorem own : ownKnob Tryz.prog.godebug = none := by kernel_rfl
theorem laidOut : laidOutB Tryz.prog = true := by kernel_rfl
section
variable {H : Type} {enc : TypeId × Value → H} {P : Program}
theorem trodAll_below (hl : laidOutB P = true) {W W' : World} (hb : Below W.heap.size W W') : ∀ (ts : List TypeId) (vs : List Value) (ds : List (DataW H)) (ps : List MemPlace),
  (∀ t ∈ ts, P.readableRec t = true ∧ t < P.types.size) → (∀ x ∈ ps, x.block < W.heap.size) → DataW.TrodAll enc P W 0 (fun _ => true) true ts vs ds ps →
  DataW.TrodAll enc P W' 0 (fun b => decide (b < W.heap.size)) true ts vs ds ps
 | [], [], [], ps, _, _, h => h
 | [], _ :: _, _, _, _, _, h => by simp [DataW.TrodAll] at h
 | [], [], _ :: _, _, _, _, h => by simp [DataW.TrodAll] at h
 | _ :: _, [], _, _, _, _, h => by simp [DataW.TrodAll] at h
 | _ :: _, _ :: _, [], _, _, _, h => by simp [DataW.TrodAll] at h
 | t :: ts, v :: vs, d :: ds, ps, hr, hlt, h => by
  obtain ⟨p, q, h1, h2, rfl⟩ := h
  exact ⟨p, q, Below.trod hl (hr t (by simp)).1 (hr t (by simp)).2 h1 hb (fun x hx => hlt x (by simp [hx])), trodAll_below hl hb ts vs ds q (fun t ht => hr t (by simp [ht])) (fun x hx => hlt x (by simp [hx])) h2, rfl⟩
theorem law_post (hl : laidOutB P = true) {f : Func} {s : ChangeSpec} {B : TypeId} (hvars : s.vars = []) (hrt : f.resultTypes = #[B]) (hB : P.underlying B = some .bool) {W W' : World} {args : Array Value} {ds gs : List (DataW H)} {before : List MemPlace}
  (hr : ∀ t ∈ f.params.toList, P.readableRec t = true ∧ t < P.types.size)
  (hW : DataW.Whole enc P f.params.toList s.vars false W args.toList ds gs before) (hs : s.fn H (ds ++ gs) = { results := [.lit (.bool true)], args := ds }) (hb : Below W.heap.size W W') :
  s.post enc P f false true false false W args (.bool true) W' := by
 have hlt : ∀ p ∈ before, p.block < W.heap.size := fun p hp => hW.lt p hp
 have hW0 := hW
 obtain ⟨p, q, hA, hV, rfl, _, _⟩ := hW0
 rw [hvars] at hV
 obtain ⟨rfl, rfl⟩ := trodVars_none hV
 refine ⟨ds, [], p ++ [], [], p, [], hW, ?_, ?_, ?_, World.keptBut_mono (fun x hx => ⟨hx, .inr (.inl (by simpa using hx))⟩) (hb.frame (· ∈ p ++ [])), fun h => by cases h⟩
 ·rw [hs, hrt]
  exact trodAll_cons_mk (shut_bool hB _) trodAll_mk0
 ·rw [hs]
  exact trodAll_below hl hb _ _ _ _ hr (fun x hx => hlt x (by simpa using hx)) hA
 ·rw [hvars, hs]
  rfl
end
section
variable {H : Type} {enc : TypeId × Value → H} {P : Program} {W : World}
end
def laidV {H : Type} : List (String × DataW H) := [("math/bits.deBruijn64tab", Rows.laid_math_bits_deBruijn64tab)]
theorem gTab : Tryz.prog.globalNamed "math/bits.deBruijn64tab" = some 0 := by kernel_rfl
theorem tTab : (Tryz.prog.globals[0]?).map (·.type) = some 239 := by kernel_rfl
theorem cells1 : Tryz.prog.cellsOf 5 = 1 := by kernel_rfl
theorem door_met (os : Os) (args : Array Value) : laidMetH Tryz.prog laidV ((World.doorLaid Tryz.prog 400 os).forCall (fun _ _ => 0) ⟨#[], args, []⟩).memory :=
 laidMetH_of_parts3 (fuel := 8) (laidMet_of_run' 8 (by kernel_rfl) (by kernel_rfl)) (by kernel_rfl) (by kernel_rfl)
theorem tab_list {H : Type} : (Rows.laid_math_bits_deBruijn64tab : DataW H) = .agg (Lib.deBruijn64tab.map fun (n : Nat) => .lit (.int .u8 (n : Int))) := rfl
theorem tab_len : Lib.deBruijn64tab.length = 64 := by decide
theorem of_laid {W : World} (h : laidMetH Tryz.prog laidV W) : TZ W := by
 rw [MakeChecks.laidMetH_plain _ _ _ (by kernel_rfl)] at h
 obtain ⟨ps, ⟨g0, t0, cs0, f0, p0, q0, hg0, ht0, hv0, hd0, _, _⟩, _, _⟩ := h
 obtain rfl := Option.some.inj (gTab.symm.trans hg0)
 obtain rfl := Option.some.inj (tTab.symm.trans ht0)
 obtain ⟨xs, m, rfl, hx, hlen, hn, hel⟩ := DataW.trod_array Tryz.underlying239 hd0
 rw [cells1] at hel
 rw [tab_list] at hx
 simp only [Prod.mk.injEq, DataW.agg.injEq] at hx
 intro j hj
 rw [tab_len] at hj
 have h1 := hel j hj
 have hL : (xs.map (·.1))[j]? = some (.lit (.int .u8 ((Lib.deBruijn64tab.getD j 0 : Nat) : Int))) := by
  rw [← hx.1, List.getElem?_map, List.getD_eq_getElem?_getD, List.getElem?_eq_getElem (by rw [tab_len]; exact hj)]
  rfl
 rw [List.getElem?_map, Option.map_eq_some_iff] at hL
 obtain ⟨x, hxi, hxa⟩ := hL
 rw [hxi] at h1
 obtain ⟨k0, e0, f0, _⟩ := DataW.trod_int Tryz.underlying5 (show _ = some x from h1)
 rw [f0] at hxa
 simp at hxa
 subst hxa
 have v0 := World.var?_cell hg0 hv0 j
 have q0 : ((cs0.toList.drop j).take 1)[0]? = some (.int .u8 ((Lib.deBruijn64tab.getD j 0 : Nat) : Int)) := by
  have e1 := e0
  rw [Nat.mul_one] at e1
  rw [e1]
  rfl
 rw [List.getElem?_take_of_lt (by omega), List.getElem?_drop, Nat.add_zero, Array.getElem?_toList] at q0
 exact v0.trans q0
end Go.Proofs.YthijbipidbjpfaaGreatDoor
