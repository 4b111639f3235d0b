/- scan.sweep: a range over a function that goes through the steps of a sweep. Written by gen_sck.py. -/
import Derived.Test.YtiobbdfkimpfbaaMgF
import Derived.Test.YtiobbdfkimpfbaaRangeH
import Derived.RangeFuncBound
import Derived.RangeFuncCalls
import Derived.RangeFuncLeaves
import Derived.Shelf.Abstract
import Derived.Shelf.RegionOpen
import Derived.OwnWalkIn
import Derived.TacticsInMore
import Derived.LoopNIn
import Derived.LoopIn
import Derived.Deep.LoopGhost
import Derived.Sort.CutIn
namespace Go.Proofs.Ytiobbdfkimpfbaa
set_option linter.unusedSimpArgs false
set_option linter.unusedVariables false
open Go.RowKit Go.Maps
open Go.Shelf
attribute [local go_sem] Oper.semAt_some

/-- An event as it lies in memory. -/
structure EV where
  what : Int
  f : Int
  xs : List Int
  ys : List Int
  rs : List Bool
  mv : List Int
  A1 : Option Addr
  A2 : Option Addr
  A3 : Option Addr
  c1 : Nat
  c2 : Nat
  c3 : Nat
def EV.pl (e : EV) : EvP := ⟨e.what, e.f, e.xs, e.ys, e.rs, e.mv⟩
def EV.enc (T : Int) (e : EV) : Array Value := #[.agg #[.int .i64 e.what, .int .i64 e.f, .slice e.A1 e.xs.length e.c1, .slice e.A2 e.ys.length e.c2, .slice e.A3 e.rs.length e.c3, .int .i64 T, .int .i64 e.f, .int .u64 (wrd 0 e.mv), .int .u64 (wrd 1 e.mv), .int .u64 (wrd 2 e.mv), .int .u64 (wrd 3 e.mv)]]
def EV.mem (base : Nat) (e : EV) (W : World) : Prop := InMem W e.A1 e.A2 e.A3 e.xs e.ys e.rs ∧ NeZ (fun k => k < base) e.A1 e.A2 e.A3 e.xs e.ys e.rs ∧ lruChk e.xs e.ys e.rs = 0
/-- The blocks of lists. -/
def HL (A1 A2 A3 : Option Addr) (xs ys : List Int) (rs : List Bool) (b : Nat) : Prop := (0 < xs.length ∧ A1.map (·.block) = some b) ∨ (0 < ys.length ∧ A2.map (·.block) = some b) ∨ (0 < rs.length ∧ A3.map (·.block) = some b)
def EV.hd (e : EV) (b : Nat) : Prop := HL e.A1 e.A2 e.A3 e.xs e.ys e.rs b
def EvH (s : List EV) (b : Nat) : Prop := ∃ e ∈ s, e.hd b
theorem NeZ.hd {Z : Nat → Prop} {A1 A2 A3 : Option Addr} {xs ys : List Int} {rs : List Bool} (h : NeZ Z A1 A2 A3 xs ys rs) {b : Nat} (hb : HL A1 A2 A3 xs ys rs b) : ¬ Z b := by
  rcases hb with ⟨hp, e⟩ | ⟨hp, e⟩ | ⟨hp, e⟩
  · exact h.a hp b e
  · exact h.i hp b e
  · exact h.r hp b e
theorem NeZ.of_hd {A1 A2 A3 : Option Addr} {xs ys : List Int} {rs : List Bool} (Z : Nat → Prop) (h : ∀ b, HL A1 A2 A3 xs ys rs b → ¬ Z b) : NeZ Z A1 A2 A3 xs ys rs :=
  ⟨fun hp g e => h g (.inl ⟨hp, e⟩), fun hp g e => h g (.inr (.inl ⟨hp, e⟩)), fun hp g e => h g (.inr (.inr ⟨hp, e⟩))⟩
theorem InMem.hd_lt {w : World} {A1 A2 A3 : Option Addr} {xs ys : List Int} {rs : List Bool} (h : InMem w A1 A2 A3 xs ys rs) {k : Nat} (hk : HL A1 A2 A3 xs ys rs k) : k < w.heap.size := by
  rcases hk with ⟨hp, e⟩ | ⟨hp, e⟩ | ⟨hp, e⟩
  · exact h.a.in_ hp e
  · exact h.i.in_ hp e
  · exact h.r.in_ hp e
theorem NewL.hd_lo {base : Nat} {A1 A2 A3 : Option Addr} {xs ys : List Int} {rs : List Bool} (h : NewL base A1 A2 A3) {k : Nat} (hk : HL A1 A2 A3 xs ys rs k) : base ≤ k := by
  rcases hk with ⟨hp, e⟩ | ⟨hp, e⟩ | ⟨hp, e⟩
  · exact h.a k e
  · exact h.i k e
  · exact h.r k e
theorem evH_nil (b : Nat) : ¬ EvH [] b := fun ⟨_, h, _⟩ => by cases h
theorem evH_snoc (s : List EV) (x : EV) (b : Nat) (h : EvH (s ++ [x]) b) : EvH s b ∨ EvH [x] b := by
  obtain ⟨e, he, hb⟩ := h
  rcases List.mem_append.1 he with he | he
  · exact .inl ⟨e, he, hb⟩
  · exact .inr ⟨e, he, hb⟩
theorem evH_one {x : EV} {b : Nat} (h : EvH [x] b) : x.hd b := by
  obtain ⟨e, he, hb⟩ := h
  obtain rfl : e = x := by simpa using he
  exact hb
theorem EV.mem_lo {base : Nat} {x : EV} {W : World} {b : Nat} (h : x.mem base W) (hb : EvH [x] b) : base ≤ b := by
  have := h.2.1.hd (evH_one hb)
  omega
/-- Lists of a call's own, by value. -/
def TwF (xs ys : List Int) (rs : List Bool) (v : Value) (lo hi : Nat) (w : World) : Prop := ∃ D1 D2 D3 f1 f2 f3, v = .agg #[.slice D1 xs.length f1, .slice D2 ys.length f2, .slice D3 rs.length f3] ∧ InMem w D1 D2 D3 xs ys rs ∧ NewL lo D1 D2 D3 ∧ ∀ k, HL D1 D2 D3 xs ys rs k → k < hi
theorem TwF.lasts (xs ys : List Int) (rs : List Bool) : (Fk.has (TwF xs ys rs)).lasts := fun _ _ _ _ _ ⟨D1, D2, D3, f1, f2, f3, e, h, n, r⟩ hb => ⟨D1, D2, D3, f1, f2, f3, e, h.ext hb, n, r⟩

theorem full_cons {T : Int} {xs ys us vs : List Int} {rs ss : List Bool} {what f : Int} (mv : List Int) (hc : lruChk xs ys rs = 0) (hn : nxtS T xs ys rs = (what, f, us, vs, ss)) :
    full T xs ys rs mv = ⟨what, f, us, vs, ss, mvS what f mv⟩ :: (if what = 0 then [] else full T us vs ss (mvS what f mv)) := by
  have ok := nxt_ok (T := T) hc
  rw [full_eq mv hc]
  rw [hn] at ok ⊢
  dsimp only
  by_cases h : what = 0
  · rw [if_pos h, if_pos h]
    obtain ⟨h1, h2⟩ := ok.same h
    injection h1 with e1 e2
    injection e2 with e2 e3
    dsimp only at h2
    subst e1 e2 e3 h2 h
    rfl
  · rw [if_neg h, if_neg h]
theorem step_same {T : Int} {xs ys us vs : List Int} {rs ss : List Bool} {what f : Int} (hs : stepS T xs ys rs = (what, f, us, vs, ss)) (h1 : what ≠ 1) (h2 : what ≠ 2) : xs = us ∧ ys = vs ∧ rs = ss := by
  unfold stepS at hs
  repeat' split at hs
  all_goals
    injection hs with e0 hs
    injection hs with e1 hs
    injection hs with e2 hs
    injection hs with e3 e4
  · exact absurd e0.symm h1
  · exact ⟨e2, e3, e4⟩
  · exact absurd e0.symm h2
  · exact ⟨e2, e3, e4⟩
theorem rem_ok {T : Int} {xs ys us vs : List Int} {rs ss : List Bool} {f : Int} (hc : lruChk xs ys rs = 0) (hs : stepS T xs ys rs = (3, f, us, vs, ss)) : remS us vs ss f = ⟨wo f us, wo f vs, ss.set f.toNat false, 0⟩ := by
  unfold stepS at hs
  by_cases h0 : 0 < xs.length ∧ (ys.length : Int) < T
  · rw [if_pos h0] at hs; exact absurd (Prod.mk.inj hs).1 (by decide)
  · rw [if_neg h0] at hs
    by_cases h1 : ys.length = 0
    · rw [if_pos h1] at hs; exact absurd (Prod.mk.inj hs).1 (by decide)
    · rw [if_neg h1] at hs
      by_cases h2 : lastB ys rs = true
      · rw [if_pos h2] at hs; exact absurd (Prod.mk.inj hs).1 (by decide)
      · rw [if_neg h2] at hs
        injection hs with _ hs
        injection hs with e1 hs
        injection hs with e2 hs
        injection hs with e3 e4
        subst e1 e2 e3 e4
        have hv := valid_of_chk hc
        have hm : lastF ys ∈ ys := lastF_mem (by omega)
        have hr := hv.range (lastF ys) (by simp [hm])
        unfold remS
        rw [show lruChd xs ys rs (lastF ys) = 0 by unfold lruChd; rw [if_neg (by simpa using hc), if_pos hr], if_neg (by simp), if_neg]
        unfold fWhere
        split
        · decide
        · first | decide | (rw [if_pos hm]; decide)

set_option maxRecDepth 100000 in
set_option maxHeartbeats 2000000 in
theorem sweep_any (A1 A2 A3 : Option Addr) (n1 n2 n3 c1 c2 c3 : Nat) (T : Int) (w : World) :
    Calls Try.prog 54 #[.agg #[.slice A1 n1 c1, .slice A2 n2 c2, .slice A3 n3 c3], .int .i64 T] w fun e w' =>
      e = .returned (.func (.func 75) #[] #[.pointer (some ⟨w.heap.size, 0, none⟩), .pointer (some ⟨w.heap.size + 1, 0, none⟩)]) ∧ w' = (w.alloc (.cells #[.slice A1 n1 c1, .slice A2 n2 c2, .slice A3 n3 c3] 25)).alloc (.cells #[.int .i64 T] 3) := by
  go_enter Try.func54, Try.ntmps54
  go_wp2
  go_ret
  exact ⟨rfl, rfl⟩

set_option maxRecDepth 100000 in
set_option maxHeartbeats 4000000 in
theorem sweep1_in (F : Fence) (n : Nat) (h6 : F.fn 75) (hro : F.round = none) (hn : 1 ≤ n) (hwide : F = Fence.wide) (Bl Bt : Nat) (A1 A2 A3 : Option Addr) (c1 c2 c3 : Nat) (xs ys : List Int) (rs : List Bool) (T : Int) (Cb : Nat → Prop) (w : World)
    (hm : InMem w A1 A2 A3 xs ys rs) (hc : lruChk xs ys rs = 0) (hl : Blk w Bl 25 #[.slice A1 xs.length c1, .slice A2 ys.length c2, .slice A3 rs.length c3]) (ht : Blk w Bt 3 #[.int .i64 T]) (hCw : ∀ b, Cb b → b < w.heap.size) :
    SeqH F n Try.prog 75 #[.pointer (some ⟨Bl, 0, none⟩), .pointer (some ⟨Bt, 0, none⟩)] (EV.enc T) (EV.mem (w.heap.size + 2)) (fun _ => False) Cb EvH
      (fun zs => zs.map EV.pl = full T xs ys rs []) (fun pre => pre.map EV.pl <+: full T xs ys rs []) (full T xs ys rs []).length w := by
  intro lp J Jx W hW hl1 hl2 hW2 hJ hY hJx h0
  subst hwide
  have HM := Lib.hid hm; have HC := Lib.hid hc
  have hbl := hl.lt; have hbt := ht.lt
  clear hm hc
  refine callsIn_of_wp Try.func75 rfl h6 ?_ hro
  simp only [Try.ntmps75, List.size_toArray, List.length_cons, List.length_nil, Nat.reduceAdd, Nat.reduceSub, Array.replicate_succ, Array.replicate_zero, List.push_toArray, List.append_toArray, List.nil_append, List.cons_append]
  have HW := Lib.hid hW
  have hwW := hW.size
  clear hW
  gi_wp2_with fail
  refine wpIn_region_chain2 (.inl rfl) (by omega) (by kernel_rfl) [1, 2, 1, 0, 2, 3] [[], [], [], [1], [], []] [.kn ?fan0, .has (TwF xs ys rs), .kn ?fan2, .fn [1] (fun l => match fst_ l with | .agg cs => .agg (cs ++ #[.int .i64 T, .int .i64 0, .int .u64 0, .int .u64 0, .int .u64 0, .int .u64 0]) | _ => undef), .has (VarF 66 [.slice none 0 0, .slice none 0 0, .slice none 0 0, .int .i64 0, .int .i64 0, .int .u64 0, .int .u64 0, .int .u64 0, .int .u64 0]), .late] (by rfl) (by rfl) (by kernel_rfl) (by kernel_rfl) (by kernel_rfl) (by kernel_rfl) (by kernel_rfl) (by kernel_rfl) (lts_kn (lts_has (TwF.lasts xs ys rs) (lts_kn (lts_fn (lts_has (VarF.lasts 66 [.slice none 0 0, .slice none 0 0, .slice none 0 0, .int .i64 0, .int .i64 0, .int .u64 0, .int .u64 0, .int .u64 0, .int .u64 0]) (lts_late lts_nil)))))) (fun W0 hb0 hz0 => ?_)
  rotate_left 2
  rw [show lateIdx [1, 2, 1, 0, 2, 3] = [5] from by rfl]
  have hW0 : Below w.heap.size w W0 := HW.out.trans (hb0.mono hwW)
  have kl := (hl.below_ HW.out hl.lt).below_ hb0 (by have := hl.lt; omega)
  have kt := (ht.below_ HW.out ht.lt).below_ hb0 (by have := ht.lt; omega)
  have zW := kl.lt
  have zT := kt.lt
  have p0 : W0.cell? ⟨Bl, 0, none⟩ = some (.slice A1 xs.length c1) := (kl.cell_ 0).trans (by simp)
  have p1 : W0.cell? ⟨Bl, 1, none⟩ = some (.slice A2 ys.length c2) := (kl.cell_ 1).trans (by simp)
  have p2 : W0.cell? ⟨Bl, 2, none⟩ = some (.slice A3 rs.length c3) := (kl.cell_ 2).trans (by simp)
  have p9 : W0.cell? ⟨Bt, 0, none⟩ = some (.int .i64 T) := (kt.cell_ 0).trans (by simp)
  refine chn_kn (stp_take (by rfl) ?yan0) ?ran0
  case yan0 =>
    intro w hbw hd
    have r0 := cell_keep hbw p0 zW
    have r1 := cell_keep hbw p1 zW
    have r2 := cell_keep hbw p2 zW
    clear hd
    go_simp
    first | done | with_reducible rfl
  (try simp only [Act.put, List.setIfInBounds_toArray, List.set_cons_zero, List.set_cons_succ, List.nil_append, List.cons_append, Nat.reduceAdd])
  refine chn_has ?san1 (fun van1 => ?ran1)
  case san1 =>
    intro w hbw hd K Q' hK
    clear hd
    go_simp
    refine (twin_any A1 A2 A3 c1 c2 c3 xs ys rs _ (HM.out.ext (hW0.trans (hbw.mono hW0.size))) (by have := chk_len HC.out; omega) (by have := chk_len HC.out; omega) (by have := chk_len HC.out; omega)).mono ?_
    rintro e y ⟨D1, D2, D3, f1, f2, f3, rfl, hm6, hn6, hb6⟩
    go_wp2_with fail
    refine hK.out (.agg #[.slice D1 xs.length f1, .slice D2 ys.length f2, .slice D3 rs.length f3]) _ _ ?_ ?_ ?_
    · (simp only [Act.put, List.setIfInBounds_toArray, List.set_cons_zero, List.set_cons_succ, List.nil_append, List.cons_append, Nat.reduceAdd])
    · exact (by repeat' (first | with_reducible exact Below.refl _ _ | with_reducible assumption | with_reducible apply Below.drew | with_reducible apply below_drewN | with_reducible apply Below.alloc | with_reducible apply Below.setCell | (with_reducible refine Below.trans ?_ (Below.mono (by assumption) ?_)) | (simp; done) | (simp; omega) | omega | with_reducible apply le_size_alloc | with_reducible apply le_size_drewN | with_reducible apply le_size_drew | with_reducible apply le_size_setCell | with_reducible refine Nat.le_trans ?_ (Below.size (by assumption))))
    · exact ⟨D1, D2, D3, f1, f2, f3, rfl, hm6, hn6, fun k hk => hm6.hd_lt hk⟩
  (try simp only [Act.put, List.setIfInBounds_toArray, List.set_cons_zero, List.set_cons_succ, List.nil_append, List.cons_append, Nat.reduceAdd])
  refine chn_kn (stp_take (by rfl) ?yan2) ?ran2
  case yan2 =>
    intro w hbw hd
    have r9 := cell_keep hbw p9 zT
    clear hd
    go_simp
    first | done | with_reducible rfl
  (try simp only [Act.put, List.setIfInBounds_toArray, List.set_cons_zero, List.set_cons_succ, List.nil_append, List.cons_append, Nat.reduceAdd])
  refine chn_fn ((match van1 with | .agg cs => .agg (cs ++ #[.int .i64 T, .int .i64 0, .int .u64 0, .int .u64 0, .int .u64 0, .int .u64 0]) | _ => undef)) (by rfl) (stp_pureK (by rfl) ?yan3) ?ran3
  case yan3 =>
    intro w0 hd w
    obtain ⟨_, _, D1, D2, D3, f1, f2, f3, rfl, _, _, _⟩ : ∃ lo hi, TwF xs ys rs van1 lo hi w0 := hd 1 _ _ (by kernel_rfl) rfl rfl
    clear hd
    go_simp
    first | done | rfl
  (try simp only [Act.put, List.setIfInBounds_toArray, List.set_cons_zero, List.set_cons_succ, List.nil_append, List.cons_append, Nat.reduceAdd])
  refine chn_has ?san4 (fun van4 => ?ran4)
  case san4 =>
    intro w hbw hd K Q' hK
    clear hd
    go_simp
    refine hK.out (.pointer (some ⟨w.heap.size, 0, none⟩)) _ _ ?_ ?_ ?_
    · (simp only [Act.put, List.setIfInBounds_toArray, List.set_cons_zero, List.set_cons_succ, List.nil_append, List.cons_append, Nat.reduceAdd])
    · exact (by repeat' (first | with_reducible exact Below.refl _ _ | with_reducible assumption | with_reducible apply Below.drew | with_reducible apply below_drewN | with_reducible apply Below.alloc | with_reducible apply Below.setCell | (with_reducible refine Below.trans ?_ (Below.mono (by assumption) ?_)) | (simp; done) | (simp; omega) | omega | with_reducible apply le_size_alloc | with_reducible apply le_size_drewN | with_reducible apply le_size_drew | with_reducible apply le_size_setCell | with_reducible refine Nat.le_trans ?_ (Below.size (by assumption))))
    · exact ⟨_, rfl, Blk.new_ rfl rfl, Nat.le_refl _, by simp⟩
  (try simp only [Act.put, List.setIfInBounds_toArray, List.set_cons_zero, List.set_cons_succ, List.nil_append, List.cons_append, Nat.reduceAdd])
  refine chn_late ?ran5
  (try simp only [Act.put, List.setIfInBounds_toArray, List.set_cons_zero, List.set_cons_succ, List.nil_append, List.cons_append, Nat.reduceAdd])
  refine chn_end (fun wz lo hi hbz hd hR => ?_)
  obtain ⟨D1, D2, D3, f1, f2, f3, rfl, hm6, hn6, hr6⟩ : TwF xs ys rs van1 (lo 1) (hi 1) wz := hd 1 _ _ rfl rfl
  obtain ⟨b, rfl, kb, hlo, hhi⟩ : VarF 66 [.slice none 0 0, .slice none 0 0, .slice none 0 0, .int .i64 0, .int .i64 0, .int .u64 0, .int .u64 0, .int .u64 0, .int .u64 0] van4 (lo 4) (hi 4) wz := hd 4 _ _ rfl rfl
  have hWlo := (hR.2 4 _ rfl).1
  have hR14 : ¬ HL D1 D2 D3 xs ys rs b := fun hk => by have h1 := hr6 b hk; have h2 := hR.1 1 4 _ _ rfl rfl (by decide); have h3 := hn6.hd_lo hk; omega
  have hWl1 := (hR.2 1 _ rfl).1
  have hbb : Below W.heap.size W wz := hb0.trans (hbz.mono hb0.size)
  have hz1 := hb0.size
  clear hd hR p0 p1 p2 p9 zW zT kl kt
  have y0 : wz.cell? ⟨b, 0, none⟩ = some (.slice none 0 0) := (kb.cell_ 0).trans (by simp)
  have y1 : wz.cell? ⟨b, 1, none⟩ = some (.slice none 0 0) := (kb.cell_ 1).trans (by simp)
  have y2 : wz.cell? ⟨b, 2, none⟩ = some (.slice none 0 0) := (kb.cell_ 2).trans (by simp)
  have y3 : wz.cell? ⟨b, 3, none⟩ = some (.int .i64 0) := (kb.cell_ 3).trans (by simp)
  have y4 : wz.cell? ⟨b, 4, none⟩ = some (.int .i64 0) := (kb.cell_ 4).trans (by simp)
  have y5 : wz.cell? ⟨b, 5, none⟩ = some (.int .u64 0) := (kb.cell_ 5).trans (by simp)
  have y6 : wz.cell? ⟨b, 6, none⟩ = some (.int .u64 0) := (kb.cell_ 6).trans (by simp)
  have y7 : wz.cell? ⟨b, 7, none⟩ = some (.int .u64 0) := (kb.cell_ 7).trans (by simp)
  have y8 : wz.cell? ⟨b, 8, none⟩ = some (.int .u64 0) := (kb.cell_ 8).trans (by simp)
  have g0 := kb.frozen_ 0
  have g1 := kb.frozen_ 1
  have g2 := kb.frozen_ 2
  have g3 := kb.frozen_ 3
  have g4 := kb.frozen_ 4
  have g5 := kb.frozen_ 5
  have g6 := kb.frozen_ 6
  have g7 := kb.frozen_ 7
  have g8 := kb.frozen_ 8
  refine late_one (by simp only [List.getElem?_toArray, List.getElem?_cons_succ, List.getElem?_cons_zero]; rfl) (fun K Q' hK => ?_)
  go_simp
  refine hK.out _ ?_
  clear hK K Q'
  obtain ⟨V, hV⟩ : ∃ V, (((((((((wz.setCell ⟨b, 0, none⟩ (.slice D1 xs.length f1)).setCell ⟨b, 1, none⟩ (.slice D2 ys.length f2)).setCell ⟨b, 2, none⟩ (.slice D3 rs.length f3)).setCell ⟨b, 3, none⟩ (.int .i64 T)).setCell ⟨b, 4, none⟩ (.int .i64 0)).setCell ⟨b, 5, none⟩ (.int .u64 0)).setCell ⟨b, 6, none⟩ (.int .u64 0)).setCell ⟨b, 7, none⟩ (.int .u64 0)).setCell ⟨b, 8, none⟩ (.int .u64 0)) = V := ⟨_, rfl⟩
  have hB0 : W.heap.size ≤ b := by omega
  have hBL := kb.lt
  have KV : Hid (WK V b D1 D2 D3 f1 f2 f3 xs ys rs T 0 []) := by
    have nb : NeB b D1 D2 D3 xs ys rs := by
      have hr12 := hR14
      exact NeZ.of_hd _ fun k hk e => by subst e; exact hr12 hk
    refine ⟨?_, ?_, nb⟩
    · rw [← hV]
      simpa [wrd] using (((((((((kb.set_ 0 (.slice D1 xs.length f1)).set_ 1 (.slice D2 ys.length f2)).set_ 2 (.slice D3 rs.length f3)).set_ 3 (.int .i64 T)).set_ 4 (.int .i64 0)).set_ 5 (.int .u64 0)).set_ 6 (.int .u64 0)).set_ 7 (.int .u64 0)).set_ 8 (.int .u64 0))
    · rw [← hV]
      exact ((((((((((hm6.set_ nb _ _).set_ nb _ _).set_ nb _ _).set_ nb _ _).set_ nb _ _).set_ nb _ _).set_ nb _ _).set_ nb _ _).set_ nb _ _))
  have BV : Hid (Below W.heap.size W V) := by
    show Below _ _ _
    rw [← hV]
    exact (((((((((hbb.setCell (p := ⟨b, 0, none⟩) hB0 _).setCell (p := ⟨b, 1, none⟩) hB0 _).setCell (p := ⟨b, 2, none⟩) hB0 _).setCell (p := ⟨b, 3, none⟩) hB0 _).setCell (p := ⟨b, 4, none⟩) hB0 _).setCell (p := ⟨b, 5, none⟩) hB0 _).setCell (p := ⟨b, 6, none⟩) hB0 _).setCell (p := ⟨b, 7, none⟩) hB0 _).setCell (p := ⟨b, 8, none⟩) hB0 _)
  have NV : Hid (NeZ (fun k => k < W.heap.size) D1 D2 D3 xs ys rs) := (hn6.mono (show W.heap.size ≤ lo 1 by omega)).neZ (fun k h => h) xs ys rs
  (try rw [hV])
  have zVs := BV.out.size
  have hbV := KV.out.blk.lt
  clear hV y0 y1 y2 y3 y4 y5 y6 y7 y8 g0 g1 g2 g3 g4 g5 g6 g7 g8 hm6 hn6 kb hlo hhi hWlo hWl1 hbz hb0 hbb hz1 hz0 hR14 hr6
  have hJ0 := hJ [] (fun _ => False) W V h0 (Nat.le_refl _) ((BV.out.mono (Nat.le_refl _)) |> Aside.of_below)
  obtain ⟨FL, hFL⟩ : ∃ l, full T xs ys rs [] = l := ⟨_, rfl⟩
  have HFL := Lib.hid hFL
  obtain ⟨Inv, hInv⟩ : ∃ Inv : Nat → World → Prop, Inv = fun m wr => ∃ (A1 A2 A3 : Option Addr) (c1 c2 c3 : Nat) (xs ys : List Int) (rs : List Bool) (F : Int) (mv : List Int) (pre : List EV) (G : Nat → Prop), phi xs ys rs = m ∧ Hid (FL = pre.map EV.pl ++ full T xs ys rs mv) ∧ J pre G wr ∧ Hid (∀ k, G k → W.heap.size ≤ k ∧ k < wr.heap.size) ∧ W.heap.size ≤ wr.heap.size ∧
    Hid (WK wr b A1 A2 A3 c1 c2 c3 xs ys rs T F mv) ∧ Hid (lruChk xs ys rs = 0) ∧ Hid (NeZ (fun k => G k ∨ k < W.heap.size) A1 A2 A3 xs ys rs) ∧ ¬ G b ∧ Hid (∀ k, EvH pre k → k ≠ b) := ⟨_, rfl⟩
  have HINV := Lib.hid hInv
  have I0 : Inv (phi xs ys rs) V := by
    rw [hInv]
    refine ⟨D1, D2, D3, f1, f2, f3, xs, ys, rs, 0, [], [], fun _ => False, rfl, ?_, hJ0, ?_, zVs, KV, HC, ?_, fun h => h.elim, ?_⟩
    · show _ = _; rw [← hFL]; rfl
    · show ∀ k, _; exact fun k h => h.elim
    · exact NV.out.sub fun k h => h.elim (fun h => h.elim) id
    · show ∀ k, _; exact fun k h => (evH_nil k h).elim
  clear hInv KV NV hJ0 HM HC
  gi_wp2_with fail
  gi_loopw [5, 6, 7, 8] (fun _ _ _ _ wr => ∃ m, Inv m wr) (fun _ _ _ _ wr => leastOf (fun m => Inv m wr))
  case atStart => exact ⟨_, I0⟩
  case round =>
    have hI := (leastOf_spec hrel).1
    have HRL := Lib.hid hrel
    obtain ⟨M, hM⟩ : ∃ M, leastOf (fun m => Inv m wr) = M := ⟨_, rfl⟩
    rw [hM] at hI
    have HMM := Lib.hid hM
    rw [HINV.out] at hI
    obtain ⟨P1, P2, P3, o1, o2, o3, us, vs, ss, F0, mv, pre, G, hphi, HQ, hj, HG, hsz, KW, HC, NZ, hGb, HH⟩ := hI
    clear hrel hM I0
    obtain ⟨⟨what, f, us2, vs2, ss2⟩, hst⟩ : ∃ R, stepS T us vs ss = R := ⟨_, rfl⟩
    obtain ⟨mw, hmw⟩ : ∃ l, mvS what f mv = l := ⟨_, rfl⟩
    have hnx := nxt_step T us vs ss
    rw [hst] at hnx
    dsimp only at hnx
    have HST := Lib.hid hst; have HMW := Lib.hid hmw
    have hbw := KW.out.blk.lt
    have HPHI := Lib.hid hphi
    clear hst hmw hphi
    gi_wp2_with fail
    refine ⟨trivial, (callsIn_wide.2 (step_any b P1 P2 P3 o1 o2 o3 us vs ss T F0 mv wr KW.out HC.out)).mono ?_⟩
    rw [HST.out]
    rintro e x1 ⟨rfl, B1, B2, B3, d1, d2, d3, k1, n1, a1⟩
    dsimp only at k1 ⊢
    rw [HMW.out] at k1
    have z1 := a1.size
    have hb1 := k1.blk.lt
    have N1 : Hid (NeZ (fun k => G k ∨ k < W.heap.size) B1 B2 B3 us2 vs2 ss2) := by
      rcases n1 with ⟨rfl, rfl, rfl, w1, w2⟩ | n1
      · obtain ⟨rfl, rfl, rfl⟩ := step_same HST.out w1 w2
        exact NZ.out
      · exact n1.neZ (fun k hk => by rcases hk with hk | hk; (have := HG.out k hk; omega); omega) _ _ _
    have q4 : x1.cell? ⟨b, 4, none⟩ = some (.int .i64 f) := (k1.blk.cell_ 4).trans (by simp)
    have K1 := Lib.hid k1
    have HA1 := Lib.hid a1
    clear k1 n1 a1
    by_cases h3 : what = 3
    · subst h3
      rw [if_pos rfl] at hnx
      have HREM := Lib.hid (rem_ok HC.out HST.out)
      obtain ⟨LU, hLU⟩ : ∃ l, wo f us2 = l := ⟨_, rfl⟩
      obtain ⟨LV, hLV⟩ : ∃ l, wo f vs2 = l := ⟨_, rfl⟩
      obtain ⟨LS, hLS⟩ : ∃ l, ss2.set f.toNat false = l := ⟨_, rfl⟩
      rw [hLU, hLV, hLS] at HREM hnx
      clear hLU hLV hLS
      have ok := nxt_ok (T := T) HC.out
      rw [hnx] at ok
      have HOK := Lib.hid ok.chk
      have HLO := Lib.hid ok.low
      have HQ2 : Hid (FL = pre.map EV.pl ++ ⟨3, f, LU, LV, LS, mw⟩ :: (if 3 = 0 then [] else full T LU LV LS mw)) := by
        show _ = _
        rw [HQ.out, full_cons mv HC.out hnx, HMW.out]
        try rfl
      clear ok hnx HQ
      have s0 : x1.cell? ⟨b, 0, none⟩ = some (.slice B1 us2.length d1) := (K1.out.blk.cell_ 0).trans (by simp)
      have s1 : x1.cell? ⟨b, 1, none⟩ = some (.slice B2 vs2.length d2) := (K1.out.blk.cell_ 1).trans (by simp)
      have s2 : x1.cell? ⟨b, 2, none⟩ = some (.slice B3 ss2.length d3) := (K1.out.blk.cell_ 2).trans (by simp)
      have s3 : x1.cell? ⟨b, 3, none⟩ = some (.int .i64 T) := (K1.out.blk.cell_ 3).trans (by simp)
      have s4 : x1.cell? ⟨b, 4, none⟩ = some (.int .i64 f) := (K1.out.blk.cell_ 4).trans (by simp)
      have s5 : x1.cell? ⟨b, 5, none⟩ = some (.int .u64 (wrd 0 mw)) := (K1.out.blk.cell_ 5).trans (by simp)
      have s6 : x1.cell? ⟨b, 6, none⟩ = some (.int .u64 (wrd 1 mw)) := (K1.out.blk.cell_ 6).trans (by simp)
      have s7 : x1.cell? ⟨b, 7, none⟩ = some (.int .u64 (wrd 2 mw)) := (K1.out.blk.cell_ 7).trans (by simp)
      have s8 : x1.cell? ⟨b, 8, none⟩ = some (.int .u64 (wrd 3 mw)) := (K1.out.blk.cell_ 8).trans (by simp)
      have nb1 : b ≠ x1.heap.size := by omega
      have nb2 : x1.heap.size ≠ b := by omega
      gi_wp2_with fail
      obtain ⟨Y, hY_⟩ : ∃ Y, x1.alloc (.cells #[.int .i64 3, .int .i64 f, .slice none 0 0, .slice none 0 0, .slice none 0 0, .int .i64 0, .int .i64 0, .int .u64 0, .int .u64 0, .int .u64 0, .int .u64 0] 82) = Y := ⟨_, rfl⟩
      have bY : Below x1.heap.size x1 Y := by rw [← hY_]; exact (Below.refl _ _).alloc (Nat.le_refl _) _
      have kY : Blk Y x1.heap.size 82 #[.int .i64 3, .int .i64 f, .slice none 0 0, .slice none 0 0, .slice none 0 0, .int .i64 0, .int .i64 0, .int .u64 0, .int .u64 0, .int .u64 0, .int .u64 0] := by rw [← hY_]; exact Blk.new_ rfl rfl
      have KY := Lib.hid (K1.out.below bY)
      (try rw [hY_])
      clear hY_
      refine ⟨trivial, (callsIn_wide.2 (Remove_S B1 B2 B3 d1 d2 d3 us2 vs2 ss2 Y KY.out.mem f)).mono ?_⟩
      rw [HREM.out]
      rintro e x3 ⟨E1, e1, E2, e2, E3, e3, rfl, hm3, hn3, hb3⟩
      dsimp only at hm3 hn3 ⊢
      have HM3 := Lib.hid hm3; have HN3 := Lib.hid hn3
      have K3 := Lib.hid (KY.out.below hb3)
      have kE3 := Lib.hid (kY.below_ hb3 kY.lt)
      have B13 := Lib.hid (bY.trans (hb3.mono bY.size))
      have z13 := B13.out.size
      have zY := bY.size
      have kYl := kY.lt
      have z3Y := hb3.size
      clear s0 s1 s2 s3 s4 s5 s6 s7 s8 q4 hm3 hn3 hb3 bY kY
      have s0 : x3.cell? ⟨b, 0, none⟩ = some (.slice B1 us2.length d1) := (K3.out.blk.cell_ 0).trans (by simp)
      have s1 : x3.cell? ⟨b, 1, none⟩ = some (.slice B2 vs2.length d2) := (K3.out.blk.cell_ 1).trans (by simp)
      have s2 : x3.cell? ⟨b, 2, none⟩ = some (.slice B3 ss2.length d3) := (K3.out.blk.cell_ 2).trans (by simp)
      have g0 := K3.out.blk.frozen_ 0
      have g1 := K3.out.blk.frozen_ 1
      have g2 := K3.out.blk.frozen_ 2

      have hb3l : b < x3.heap.size := by omega
      gi_upto_region 7 with fail
      obtain ⟨X, hX⟩ : ∃ X, (((x3.setCell ⟨b, 0, none⟩ (.slice E1 LU.length e1)).setCell ⟨b, 1, none⟩ (.slice E2 LV.length e2)).setCell ⟨b, 2, none⟩ (.slice E3 LS.length e3)).alloc (.cells #[.slice E1 LU.length e1, .slice E2 LV.length e2, .slice E3 LS.length e3] 25) = X := ⟨_, rfl⟩
      have AX : Hid (Aside (fun k => k = b) x3 X) := by
        show Aside _ _ _
        rw [← hX]
        exact ((((Aside.refl (fun k => k = b) x3).setCell (p := ⟨b, 0, none⟩) (.inr rfl) _).setCell (p := ⟨b, 1, none⟩) (.inr rfl) _).setCell (p := ⟨b, 2, none⟩) (.inr rfl) _).alloc _
      have NE3 : NeB b E1 E2 E3 LU LV LS := HN3.out.neB (by omega) LU LV LS
      have KX : Hid (WK X b E1 E2 E3 e1 e2 e3 LU LV LS T f mw) := by
        refine ⟨?_, HM3.out.aside AX.out NE3, NE3⟩
        rw [← hX]
        simpa using (((K3.out.blk.set_ 0 (.slice E1 LU.length e1)).set_ 1 (.slice E2 LV.length e2)).set_ 2 (.slice E3 LS.length e3)).alloc_ (.cells #[.slice E1 LU.length e1, .slice E2 LV.length e2, .slice E3 LS.length e3] 25)
      have kEX := Lib.hid (AX.out.blk kE3.out (show ¬ x1.heap.size = b by omega))
      have N3 : Hid (NeZ (fun k => G k ∨ k < W.heap.size) E1 E2 E3 LU LV LS) := HN3.out.neZ (fun k hk => by rcases hk with hk | hk; (have := HG.out k hk; omega); omega) _ _ _
      have NEB3 : NeB x1.heap.size E1 E2 E3 LU LV LS := HN3.out.neB (by omega) LU LV LS
      (try rw [hX])
      have zX := AX.out.size
      clear hX s0 s1 s2 g0 g1 g2 K3 kE3
      have s0 : X.cell? ⟨b, 0, none⟩ = some (.slice E1 LU.length e1) := (KX.out.blk.cell_ 0).trans (by simp)
      have s1 : X.cell? ⟨b, 1, none⟩ = some (.slice E2 LV.length e2) := (KX.out.blk.cell_ 1).trans (by simp)
      have s2 : X.cell? ⟨b, 2, none⟩ = some (.slice E3 LS.length e3) := (KX.out.blk.cell_ 2).trans (by simp)
      have s3 : X.cell? ⟨b, 3, none⟩ = some (.int .i64 T) := (KX.out.blk.cell_ 3).trans (by simp)
      have s4 : X.cell? ⟨b, 4, none⟩ = some (.int .i64 f) := (KX.out.blk.cell_ 4).trans (by simp)
      have s5 : X.cell? ⟨b, 5, none⟩ = some (.int .u64 (wrd 0 mw)) := (KX.out.blk.cell_ 5).trans (by simp)
      have s6 : X.cell? ⟨b, 6, none⟩ = some (.int .u64 (wrd 1 mw)) := (KX.out.blk.cell_ 6).trans (by simp)
      have s7 : X.cell? ⟨b, 7, none⟩ = some (.int .u64 (wrd 2 mw)) := (KX.out.blk.cell_ 7).trans (by simp)
      have s8 : X.cell? ⟨b, 8, none⟩ = some (.int .u64 (wrd 3 mw)) := (KX.out.blk.cell_ 8).trans (by simp)
      have t2 : X.cell? ⟨x1.heap.size, 2, none⟩ = some (.slice none 0 0) := (kEX.out.cell_ 2).trans (by simp)
      have t3 : X.cell? ⟨x1.heap.size, 3, none⟩ = some (.slice none 0 0) := (kEX.out.cell_ 3).trans (by simp)
      have t4 : X.cell? ⟨x1.heap.size, 4, none⟩ = some (.slice none 0 0) := (kEX.out.cell_ 4).trans (by simp)
      have t5 : X.cell? ⟨x1.heap.size, 5, none⟩ = some (.int .i64 0) := (kEX.out.cell_ 5).trans (by simp)
      have t6 : X.cell? ⟨x1.heap.size, 6, none⟩ = some (.int .i64 0) := (kEX.out.cell_ 6).trans (by simp)
      have t7 : X.cell? ⟨x1.heap.size, 7, none⟩ = some (.int .u64 0) := (kEX.out.cell_ 7).trans (by simp)
      have t8 : X.cell? ⟨x1.heap.size, 8, none⟩ = some (.int .u64 0) := (kEX.out.cell_ 8).trans (by simp)
      have t9 : X.cell? ⟨x1.heap.size, 9, none⟩ = some (.int .u64 0) := (kEX.out.cell_ 9).trans (by simp)
      have t10 : X.cell? ⟨x1.heap.size, 10, none⟩ = some (.int .u64 0) := (kEX.out.cell_ 10).trans (by simp)
      have h2 := kEX.out.frozen_ 2
      have h3 := kEX.out.frozen_ 3
      have h4 := kEX.out.frozen_ 4
      have h5 := kEX.out.frozen_ 5
      have h6 := kEX.out.frozen_ 6
      have h7 := kEX.out.frozen_ 7
      have h8 := kEX.out.frozen_ 8
      have h9 := kEX.out.frozen_ 9
      have h10 := kEX.out.frozen_ 10

      have hb3l : b < X.heap.size := by omega
      have hx3l : x1.heap.size < X.heap.size := by omega
      gi_upto_region 8 with fail
      clear s0 s1 s2 s3 s4 s5 s6 s7 s8 t2 t3 t4 t5 t6 t7 t8 t9 t10 h2 h3 h4 h5 h6 h7 h8 h9 h10
      have HAX : Hid (Aside (fun k => k = b) wr X) := (HA1.out.trans (Aside.of_below B13.out)).trans AX.out
      obtain ⟨V, hV⟩ : ∃ V, (((((((((X.setCell ⟨x1.heap.size, 2, none⟩ (.slice E1 LU.length e1)).setCell ⟨x1.heap.size, 3, none⟩ (.slice E2 LV.length e2)).setCell ⟨x1.heap.size, 4, none⟩ (.slice E3 LS.length e3)).setCell ⟨x1.heap.size, 5, none⟩ (.int .i64 T)).setCell ⟨x1.heap.size, 6, none⟩ (.int .i64 f)).setCell ⟨x1.heap.size, 7, none⟩ (.int .u64 (wrd 0 mw))).setCell ⟨x1.heap.size, 8, none⟩ (.int .u64 (wrd 1 mw))).setCell ⟨x1.heap.size, 9, none⟩ (.int .u64 (wrd 2 mw))).setCell ⟨x1.heap.size, 10, none⟩ (.int .u64 (wrd 3 mw))) = V := ⟨_, rfl⟩
      have HAV : Hid (Aside (fun k => k = b) wr V) := by show Aside _ _ _; rw [← hV]; exact (((((((((HAX.out.setCell (p := ⟨x1.heap.size, 2, none⟩) (.inl (by show _ ≤ _; omega)) _).setCell (p := ⟨x1.heap.size, 3, none⟩) (.inl (by show _ ≤ _; omega)) _).setCell (p := ⟨x1.heap.size, 4, none⟩) (.inl (by show _ ≤ _; omega)) _).setCell (p := ⟨x1.heap.size, 5, none⟩) (.inl (by show _ ≤ _; omega)) _).setCell (p := ⟨x1.heap.size, 6, none⟩) (.inl (by show _ ≤ _; omega)) _).setCell (p := ⟨x1.heap.size, 7, none⟩) (.inl (by show _ ≤ _; omega)) _).setCell (p := ⟨x1.heap.size, 8, none⟩) (.inl (by show _ ≤ _; omega)) _).setCell (p := ⟨x1.heap.size, 9, none⟩) (.inl (by show _ ≤ _; omega)) _).setCell (p := ⟨x1.heap.size, 10, none⟩) (.inl (by show _ ≤ _; omega)) _)
      have KV : Hid (WK V b E1 E2 E3 e1 e2 e3 LU LV LS T f mw) := by show WK _ _ _ _ _ _ _ _ _ _ _ _ _ _; rw [← hV]; exact (KX.out.aside (((((((((((Aside.refl (fun k => k = x1.heap.size) X).setCell (p := ⟨x1.heap.size, 2, none⟩) (.inr rfl) _).setCell (p := ⟨x1.heap.size, 3, none⟩) (.inr rfl) _).setCell (p := ⟨x1.heap.size, 4, none⟩) (.inr rfl) _).setCell (p := ⟨x1.heap.size, 5, none⟩) (.inr rfl) _).setCell (p := ⟨x1.heap.size, 6, none⟩) (.inr rfl) _).setCell (p := ⟨x1.heap.size, 7, none⟩) (.inr rfl) _).setCell (p := ⟨x1.heap.size, 8, none⟩) (.inr rfl) _).setCell (p := ⟨x1.heap.size, 9, none⟩) (.inr rfl) _).setCell (p := ⟨x1.heap.size, 10, none⟩) (.inr rfl) _)) (show ¬ b = x1.heap.size by omega) NEB3)
      have KE : Hid (Blk V x1.heap.size 82 #[.int .i64 3, .int .i64 f, .slice E1 LU.length e1, .slice E2 LV.length e2, .slice E3 LS.length e3, .int .i64 T, .int .i64 f, .int .u64 (wrd 0 mw), .int .u64 (wrd 1 mw), .int .u64 (wrd 2 mw), .int .u64 (wrd 3 mw)]) := by show Blk _ _ _ _; rw [← hV]; exact (by simpa using (((((((((kEX.out.set_ 2 (.slice E1 LU.length e1)).set_ 3 (.slice E2 LV.length e2)).set_ 4 (.slice E3 LS.length e3)).set_ 5 (.int .i64 T)).set_ 6 (.int .i64 f)).set_ 7 (.int .u64 (wrd 0 mw))).set_ 8 (.int .u64 (wrd 1 mw))).set_ 9 (.int .u64 (wrd 2 mw))).set_ 10 (.int .u64 (wrd 3 mw))))
      have HV := Lib.hid hV
      clear hV
      have zV := HAV.out.size
      have hbe := KE.out.lt
      have j1 : J pre G V := hJ pre G wr V hj hsz (HAV.out.wide fun k _ e ht => by subst e; rcases ht with (ht | ht) | ht; exact hGb ht; (have := ht.1; omega); exact HH.out k ht rfl)
      have HGV : Hid (∀ k, G k → W.heap.size ≤ k ∧ k < V.heap.size) := by show ∀ k, _; exact fun k hk => by have := HG.out k hk; omega
      have HMEM : Hid (EV.mem (w.heap.size + 2) ⟨3, f, LU, LV, LS, mw, E1, E2, E3, e1, e2, e3⟩ V) := ⟨KV.out.mem, N3.out.sub fun k hk => .inr (by omega), HOK.out⟩
      obtain ⟨fn1, tmps1, assign1, body1, hy1, hR1⟩ := hY pre ⟨3, f, LU, LV, LS, mw, E1, E2, E3, e1, e2, e3⟩ G V j1 HMEM.out (by rw [HFL.out, HQ2.out]; simp) (by omega) HGV.out (fun k hk hg => N3.out.hd (evH_one hk) (.inl hg))
      simp only [EV.enc] at hy1
      clear hj
      (try rw [HV.out])
      have u0 : V.cell? ⟨x1.heap.size, 0, none⟩ = some (.int .i64 3) := (KE.out.cell_ 0).trans (by simp)
      have u1 : V.cell? ⟨x1.heap.size, 1, none⟩ = some (.int .i64 f) := (KE.out.cell_ 1).trans (by simp)
      have u2 : V.cell? ⟨x1.heap.size, 2, none⟩ = some (.slice E1 LU.length e1) := (KE.out.cell_ 2).trans (by simp)
      have u3 : V.cell? ⟨x1.heap.size, 3, none⟩ = some (.slice E2 LV.length e2) := (KE.out.cell_ 3).trans (by simp)
      have u4 : V.cell? ⟨x1.heap.size, 4, none⟩ = some (.slice E3 LS.length e3) := (KE.out.cell_ 4).trans (by simp)
      have u5 : V.cell? ⟨x1.heap.size, 5, none⟩ = some (.int .i64 T) := (KE.out.cell_ 5).trans (by simp)
      have u6 : V.cell? ⟨x1.heap.size, 6, none⟩ = some (.int .i64 f) := (KE.out.cell_ 6).trans (by simp)
      have u7 : V.cell? ⟨x1.heap.size, 7, none⟩ = some (.int .u64 (wrd 0 mw)) := (KE.out.cell_ 7).trans (by simp)
      have u8 : V.cell? ⟨x1.heap.size, 8, none⟩ = some (.int .u64 (wrd 1 mw)) := (KE.out.cell_ 8).trans (by simp)
      have u9 : V.cell? ⟨x1.heap.size, 9, none⟩ = some (.int .u64 (wrd 2 mw)) := (KE.out.cell_ 9).trans (by simp)
      have u10 : V.cell? ⟨x1.heap.size, 10, none⟩ = some (.int .u64 (wrd 3 mw)) := (KE.out.cell_ 10).trans (by simp)
      gi_wp2_with fail
      (try rw [HV.out])
      (try rw [hy1])
      gi_wp2_with fail
      refine hR1.mono ?_
      clear hR1 hy1
      have nG : ∀ q, q < W.heap.size → ¬ G q := fun q hq hg => by have := HG.out q hg; omega
      have HEL := Lib.hid HAV.out.size
      rintro e W2 (⟨rfl, has, j2⟩ | ⟨rfl, jx⟩)
      · have hz2 := has.size
        have HAS := Lib.hid has
        have nbe : ¬ (G (x1.heap.size) ∨ Cb (x1.heap.size) ∨ x1.heap.size = lp) := fun hh => by
          rcases hh with hh | hh | hh
          · have := HG.out _ hh; omega
          · have := hCw _ hh; omega
          · omega
        have nbb : ¬ (G b ∨ Cb b ∨ b = lp) := fun hh => by
          rcases hh with hh | hh | hh
          · exact hGb hh
          · have := hCw _ hh; omega
          · omega
        have HKE2 := Lib.hid (HAS.out.blk KE.out nbe)
        have v0 : W2.cell? ⟨x1.heap.size, 0, none⟩ = some (.int .i64 3) := (HKE2.out.cell_ 0).trans (by simp)
        clear has nbe
        have HKW2 := Lib.hid (KV.out.aside HAS.out nbb (N3.out.sub fun k hk => by rcases hk with hk | hk | hk; exact .inl hk; (have := hCw k hk; exact .inr (by omega)); exact .inr (by omega)))
        have IN : Inv (phi LU LV LS) W2 := by
          rw [HINV.out]
          refine ⟨E1, E2, E3, e1, e2, e3, LU, LV, LS, f, mw, pre ++ [⟨3, f, LU, LV, LS, mw, E1, E2, E3, e1, e2, e3⟩], Gn G V W2, rfl, ?_, j2, ?_, by omega, HKW2, HOK, ?_, ?_, ?_⟩
          · show _ = _; rw [HQ2.out, if_neg (by decide)]; simp [EV.pl]
          · show ∀ k, _
            intro k hk
            rcases hk with hk | hk
            · have := HG.out k hk; omega
            · omega
          · refine NeZ.of_hd _ fun k hk hh => ?_
            have k1 := KV.out.mem.hd_lt hk
            rcases hh with (hh | hh) | hh
            · exact N3.out.hd hk (.inl hh)
            · omega
            · exact N3.out.hd hk (.inr hh)
          · rintro (hh | hh)
            · exact hGb hh
            · have := KV.out.blk.lt; omega
          · show ∀ k, _
            intro k hk e
            rcases evH_snoc _ _ _ hk with hk | hk
            · exact HH.out k hk e
            · exact KV.out.ne.hd (evH_one hk) e
        have LOW : phi LU LV LS < M := by rw [← HPHI.out]; exact HLO.out (by decide)
        clear nbb
        gi_wp2
        refine ⟨?_, ?_⟩
        · iterate 35 apply Exists.intro
          refine ⟨⟨_, IN⟩, ?_⟩
          rfl
        · rw [HMM.out]
          exact Nat.lt_of_le_of_lt ((leastOf_spec ⟨_, IN⟩).2 _ IN) LOW
      · gi_wp2
        refine bodyPost_ret (results_none rfl _ _ _) rfl ?_
        refine ⟨⟨_, rfl⟩, .inr ⟨_, _, ?_, jx⟩⟩
        rw [HFL.out, HQ2.out]
        exact ⟨if 3 = 0 then [] else full T LU LV LS mw, by simp [EV.pl]⟩

    · rw [if_neg h3] at hnx
      have h3b : (what == 3) = false := by simpa using h3
      obtain ⟨LU, LV, LS, rfl, rfl, rfl⟩ : ∃ LU LV LS, LU = us2 ∧ LV = vs2 ∧ LS = ss2 := ⟨_, _, _, rfl, rfl, rfl⟩
      have ok := nxt_ok (T := T) HC.out
      rw [hnx] at ok
      have HOK := Lib.hid ok.chk
      have HLO := Lib.hid ok.low
      have HQ2 : Hid (FL = pre.map EV.pl ++ ⟨what, f, LU, LV, LS, mw⟩ :: (if what = 0 then [] else full T LU LV LS mw)) := by
        show _ = _
        rw [HQ.out, full_cons mv HC.out hnx, HMW.out]
        try rfl
      clear ok hnx HQ
      have s0 : x1.cell? ⟨b, 0, none⟩ = some (.slice B1 LU.length d1) := (K1.out.blk.cell_ 0).trans (by simp)
      have s1 : x1.cell? ⟨b, 1, none⟩ = some (.slice B2 LV.length d2) := (K1.out.blk.cell_ 1).trans (by simp)
      have s2 : x1.cell? ⟨b, 2, none⟩ = some (.slice B3 LS.length d3) := (K1.out.blk.cell_ 2).trans (by simp)
      have s3 : x1.cell? ⟨b, 3, none⟩ = some (.int .i64 T) := (K1.out.blk.cell_ 3).trans (by simp)
      have s4 : x1.cell? ⟨b, 4, none⟩ = some (.int .i64 f) := (K1.out.blk.cell_ 4).trans (by simp)
      have s5 : x1.cell? ⟨b, 5, none⟩ = some (.int .u64 (wrd 0 mw)) := (K1.out.blk.cell_ 5).trans (by simp)
      have s6 : x1.cell? ⟨b, 6, none⟩ = some (.int .u64 (wrd 1 mw)) := (K1.out.blk.cell_ 6).trans (by simp)
      have s7 : x1.cell? ⟨b, 7, none⟩ = some (.int .u64 (wrd 2 mw)) := (K1.out.blk.cell_ 7).trans (by simp)
      have s8 : x1.cell? ⟨b, 8, none⟩ = some (.int .u64 (wrd 3 mw)) := (K1.out.blk.cell_ 8).trans (by simp)
      have nb1 : b ≠ x1.heap.size := by omega
      have nb2 : x1.heap.size ≠ b := by omega
      have CELLS := Lib.hid h3b
      obtain ⟨V, hV⟩ : ∃ V, x1.alloc (.cells #[.int .i64 what, .int .i64 f, .slice B1 LU.length d1, .slice B2 LV.length d2, .slice B3 LS.length d3, .int .i64 T, .int .i64 f, .int .u64 (wrd 0 mw), .int .u64 (wrd 1 mw), .int .u64 (wrd 2 mw), .int .u64 (wrd 3 mw)] 82) = V := ⟨_, rfl⟩
      have HAV : Hid (Aside (fun k => k = b) wr V) := by show Aside _ _ _; rw [← hV]; exact (Aside.alloc HA1.out _)
      have KV : Hid (WK V b B1 B2 B3 d1 d2 d3 LU LV LS T f mw) := by show WK _ _ _ _ _ _ _ _ _ _ _ _ _ _; rw [← hV]; exact (K1.out.below ((Below.refl _ _).alloc (Nat.le_refl _) _))
      have KE : Hid (Blk V x1.heap.size 82 #[.int .i64 what, .int .i64 f, .slice B1 LU.length d1, .slice B2 LV.length d2, .slice B3 LS.length d3, .int .i64 T, .int .i64 f, .int .u64 (wrd 0 mw), .int .u64 (wrd 1 mw), .int .u64 (wrd 2 mw), .int .u64 (wrd 3 mw)]) := by show Blk _ _ _ _; rw [← hV]; exact (Blk.new_ rfl rfl)
      have HV := Lib.hid hV
      clear hV
      have zV := HAV.out.size
      have hbe := KE.out.lt
      have j1 : J pre G V := hJ pre G wr V hj hsz (HAV.out.wide fun k _ e ht => by subst e; rcases ht with (ht | ht) | ht; exact hGb ht; (have := ht.1; omega); exact HH.out k ht rfl)
      have HGV : Hid (∀ k, G k → W.heap.size ≤ k ∧ k < V.heap.size) := by show ∀ k, _; exact fun k hk => by have := HG.out k hk; omega
      have HMEM : Hid (EV.mem (w.heap.size + 2) ⟨what, f, LU, LV, LS, mw, B1, B2, B3, d1, d2, d3⟩ V) := ⟨KV.out.mem, N1.out.sub fun k hk => .inr (by omega), HOK.out⟩
      obtain ⟨fn1, tmps1, assign1, body1, hy1, hR1⟩ := hY pre ⟨what, f, LU, LV, LS, mw, B1, B2, B3, d1, d2, d3⟩ G V j1 HMEM.out (by rw [HFL.out, HQ2.out]; simp) (by omega) HGV.out (fun k hk hg => N1.out.hd (evH_one hk) (.inl hg))
      simp only [EV.enc] at hy1
      clear hj
      gi_wp2_with fail
      (try rw [HV.out])
      (try rw [hy1])
      gi_wp2_with fail
      refine hR1.mono ?_
      clear hR1 hy1
      have nG : ∀ q, q < W.heap.size → ¬ G q := fun q hq hg => by have := HG.out q hg; omega
      have HEL := Lib.hid HAV.out.size
      rintro e W2 (⟨rfl, has, j2⟩ | ⟨rfl, jx⟩)
      · have hz2 := has.size
        have HAS := Lib.hid has
        have nbe : ¬ (G (x1.heap.size) ∨ Cb (x1.heap.size) ∨ x1.heap.size = lp) := fun hh => by
          rcases hh with hh | hh | hh
          · have := HG.out _ hh; omega
          · have := hCw _ hh; omega
          · omega
        have nbb : ¬ (G b ∨ Cb b ∨ b = lp) := fun hh => by
          rcases hh with hh | hh | hh
          · exact hGb hh
          · have := hCw _ hh; omega
          · omega
        have HKE2 := Lib.hid (HAS.out.blk KE.out nbe)
        have v0 : W2.cell? ⟨x1.heap.size, 0, none⟩ = some (.int .i64 what) := (HKE2.out.cell_ 0).trans (by simp)
        clear has nbe
        by_cases h0 : what = 0
        · subst h0
          clear nbb
          gi_wp2
          refine bodyPost_ret (results_none rfl _ _ _) rfl ?_
          refine ⟨⟨_, rfl⟩, .inl ⟨_, _, ?_, j2⟩⟩
          rw [HFL.out, HQ2.out]
          simp [EV.pl]
        · have h0b : (what == 0) = false := by simpa using h0
          have HKW2 := Lib.hid (KV.out.aside HAS.out nbb (N1.out.sub fun k hk => by rcases hk with hk | hk | hk; exact .inl hk; (have := hCw k hk; exact .inr (by omega)); exact .inr (by omega)))
          have IN : Inv (phi LU LV LS) W2 := by
            rw [HINV.out]
            refine ⟨B1, B2, B3, d1, d2, d3, LU, LV, LS, f, mw, pre ++ [⟨what, f, LU, LV, LS, mw, B1, B2, B3, d1, d2, d3⟩], Gn G V W2, rfl, ?_, j2, ?_, by omega, HKW2, HOK, ?_, ?_, ?_⟩
            · show _ = _; rw [HQ2.out, if_neg h0]; simp [EV.pl]
            · show ∀ k, _
              intro k hk
              rcases hk with hk | hk
              · have := HG.out k hk; omega
              · omega
            · refine NeZ.of_hd _ fun k hk hh => ?_
              have k1 := KV.out.mem.hd_lt hk
              rcases hh with (hh | hh) | hh
              · exact N1.out.hd hk (.inl hh)
              · omega
              · exact N1.out.hd hk (.inr hh)
            · rintro (hh | hh)
              · exact hGb hh
              · have := KV.out.blk.lt; omega
            · show ∀ k, _
              intro k hk e
              rcases evH_snoc _ _ _ hk with hk | hk
              · exact HH.out k hk e
              · exact KV.out.ne.hd (evH_one hk) e
          have LOW : phi LU LV LS < M := by rw [← HPHI.out]; exact HLO.out h0
          clear nbb
          gi_wp2
          refine ⟨?_, ?_⟩
          · iterate 35 apply Exists.intro
            refine ⟨⟨_, IN⟩, ?_⟩
            rfl
          · rw [HMM.out]
            exact Nat.lt_of_le_of_lt ((leastOf_spec ⟨_, IN⟩).2 _ IN) LOW
      · gi_wp2
        refine bodyPost_ret (results_none rfl _ _ _) rfl ?_
        refine ⟨⟨_, rfl⟩, .inr ⟨_, _, ?_, jx⟩⟩
        rw [HFL.out, HQ2.out]
        exact ⟨if what = 0 then [] else full T LU LV LS mw, by simp [EV.pl]⟩

end Go.Proofs.Ytiobbdfkimpfbaa
