/- scan.Victims. Written by gen_scl.py. -/
/- scan.Victims. Written by gen_scm.py. -/
/- scan.First. Written by gen_scn.py. -/
import Derived.Test.YtiobbdfkimpfbaaScK
import Derived.Maps.AppendAt
namespace Go.Proofs.Ytiobbdfkimpfbaa
set_option linter.unusedSimpArgs false
set_option linter.unusedVariables false
open Go.RowKit Go.Maps
open Go.Shelf
attribute [local go_sem] Oper.semAt_some

theorem wpListIn_app_at {F : Fence} {n : Nat} {P : Program} (w : World) {ops : Array Oper} {rest : List Oper} {o : Oper} {a : Act} {Q : Exit → Act → World → Prop}
    (hg : o.guard = none) (s x : Operand) (t : TypeId) (hop : o.op = Op.call { callee := Callee.builtin Builtin.append, args := #[s, x], argTypes := #[t, t] })
    (base : Nat) (e : TypeId) (i : TypeInfo) (z : Value) (size bytes : Nat) (h1 : P.underlying t = some (.slice e)) (h2 : P.info? e = some i) (h3 : i.zero = some z) (h4 : i.size = size) (h5 : i.bytes = bytes) (h6 : z.cells.size = size) (h7 : 0 < size)
    (v : Value) (k : Nat) (xs : List Value) (hs : a.eval s = v) (hown : w.ownsRow base e size v k xs) (ad : Addr) (m c : Nat) (news : List Value) (hx : a.eval x = .slice (some ad) m c) (hn : news.length = m * size)
    (hc : ∀ j u, news[j]? = some u → w.cell? (ad.add j) = some u) (h1c : ∀ u ∈ news, u.oneCell' = true) (b1 : k + m ≤ maxLen) (b2 : (k + m) * bytes ≤ 140737488355328) (b3 : base ≤ w.heap.size)
    (hK : ∀ v' w', w'.ownsRow base e size v' (k + m) (xs ++ news) → w.grownBy w' v.ownBlock → (v'.ownBlock = v.ownBlock ∨ v'.ownBlock = some w.heap.size) → wpListIn F n P ops Q rest (a.put o.dst v') w') :
    wpListIn F n P ops Q (o :: rest) a w := by
  refine wpListIn_plain hg fun K hK' => ?_
  obtain ⟨v', w', hrun, r1, r2, _, r3⟩ := run_append_own_at (P := P) w base t o.type e i z size bytes h1 h2 h3 h4 h5 h6 h7 v k xs hown ad m c news hn hc h1c b1 b2 b3
  unfold Oper.wpIn
  refine ⟨?_, ?_⟩
  · simp [Oper.about, hop, resolve, Target.leads, Sem.run_pure]
  · rw [Oper.semAt_plain F _ _ (by rw [hop]; intro c hc'; cases hc')]
    simp [execOp, hop, resolve, invoke, builtin, hs, hx, hrun, Result.andThen]
    exact hK' _ _ (hK v' w' r1 r2 r3)

/-- A row of ints that a variable holds, in memory of the rounds' own. -/
def VB (base Bv : Nat) (vs : List Int) (G : Nat → Prop) (V : World) : Prop :=
  ∃ A c, Blk V Bv 22 #[.slice A vs.length c] ∧ Own V base 3 (.int .i64) (.slice A vs.length c) vs ∧ ∀ g, A.map (·.block) = some g → G g
theorem Own.aside {α : Type} {w w' : World} {Z : Nat → Prop} {base : Nat} {E : TypeId} {mk : α → Value} {A : Option Addr} {n c : Nat} {xs : List α} (h : Own w base E mk (.slice A n c) xs) (ha : Aside Z w w') (hz : ∀ g, A.map (·.block) = some g → ¬ Z g) : Own w' base E mk (.slice A n c) xs := by
  rcases h.form with ⟨e, rfl⟩ | ⟨g, cur, e, hb, hk, hs, hm, hc⟩
  · rw [e]; exact World.ownsRow_nil _ _ _ _
  · rw [e]
    injection e with e1
    subst e1
    exact Own.of_blk (ha.blk hk (hz g rfl)) hb hs hm hc
theorem VB.aside {base Bv : Nat} {vs : List Int} {G Z : Nat → Prop} {V V' : World} (h : VB base Bv vs G V) (ha : Aside Z V V') (h1 : ¬ Z Bv) (h2 : ∀ g, G g → ¬ Z g) : VB base Bv vs G V' := by
  obtain ⟨A, c, hk, ho, hg⟩ := h
  exact ⟨A, c, ha.blk hk h1, ho.aside ha fun g e => h2 g (hg g e), hg⟩
theorem VB.mono {base Bv : Nat} {vs : List Int} {G G' : Nat → Prop} {V : World} (h : VB base Bv vs G V) (hG : ∀ g, G g → G' g) : VB base Bv vs G' V := by
  obtain ⟨A, c, hk, ho, hg⟩ := h
  exact ⟨A, c, hk, ho, fun g e => hG g (hg g e)⟩
/-- One more. -/
theorem VB.app {base Bv : Nat} {vs : List Int} {G : Nat → Prop} {V w1 : World} {A : Option Addr} {c : Nat} {x : Int} {v' : Value} (hk : Blk V Bv 22 #[.slice A vs.length c]) (ho : Own V base 3 (.int .i64) (.slice A vs.length c) vs) (hbV : base ≤ V.heap.size) (hbB : base ≤ Bv) (hg : ∀ g, A.map (·.block) = some g → G g) (hGb : ¬ G Bv) (hGl : ∀ g, G g → g < V.heap.size)
    (hown : w1.ownsRow base 3 1 v' (vs.length + 1) (vs.map (.int .i64) ++ [.int .i64 x])) (hgr : (V.alloc (.cells #[.int .i64 x] 3)).grownBy w1 (Value.slice A vs.length c).ownBlock)
    (hat : v'.ownBlock = (Value.slice A vs.length c).ownBlock ∨ v'.ownBlock = some (V.alloc (.cells #[.int .i64 x] 3)).heap.size) :
    Blk w1 Bv 22 #[.slice A vs.length c] ∧ Aside (fun b => G b) V w1 ∧ KeepsOthers V (w1.setCell ⟨Bv, 0, none⟩ v') ∧ Below base V (w1.setCell ⟨Bv, 0, none⟩ v') ∧ VB base Bv (vs ++ [x]) (Gn G V (w1.setCell ⟨Bv, 0, none⟩ v')) (w1.setCell ⟨Bv, 0, none⟩ v') := by
  have hob : (Value.slice A vs.length c).ownBlock = A.map (·.block) := by cases A <;> rfl
  have hlt := hk.lt
  have hk1 : Blk w1 Bv 22 #[.slice A vs.length c] := by
    refine (hgr.block Bv (by simp; omega) (fun e => ?_)).trans (hk.alloc_ _)
    rw [hob] at e
    exact hGb (hg Bv e.symm)
  have ha : Aside (fun b => G b) V w1 := by
    refine (((Aside.refl (fun b => G b) V).alloc _).grown hgr fun k e => ?_)
    rw [hob] at e
    exact .inr (hg k e)
  have hrow : (Value.slice A vs.length c).ownBlock = none ∨ ∃ g cur, (Value.slice A vs.length c).ownBlock = some g ∧ base ≤ g ∧ Blk V g 3 cur := by
    rcases ho.form with ⟨e, _⟩ | ⟨g, cur, e, hb, hk, _⟩
    · rw [e]; exact .inl rfl
    · rw [e]; exact .inr ⟨g, cur, rfl, hb, hk⟩
  refine ⟨hk1, ha, ?_, ?_, ?_⟩
  · refine ((KeepsOthers.alloc V _).trans (KeepsOthers.of_grownBy hgr fun j o ej hj => ?_)).trans (KeepsOthers.setCell _ _ _)
    rcases hrow with h | ⟨g, cur, h, _, hb⟩
    · rw [h] at ej; cases ej
    · rw [h] at ej
      injection ej with ej
      subst ej
      rw [(hb.alloc_ _ : _ = _)] at hj
      cases hj; rfl
  · refine (((Below.refl base V).alloc hbV _).grown hgr (by simp; omega) fun j ej => ?_).setCell (p := ⟨Bv, 0, none⟩) hbB v'
    rcases hrow with h | ⟨g, cur, h, hb, _⟩
    · rw [h] at ej; cases ej
    · rw [h] at ej; injection ej with ej; omega
  have hO : Own w1 base 3 (.int .i64) v' (vs ++ [x]) := by
    show w1.ownsRow _ _ _ _ _ _
    rw [List.map_append, List.length_append]
    exact hown
  obtain ⟨A', c', rfl, _⟩ := hO.sl
  have hob' : (Value.slice A' (vs ++ [x]).length c').ownBlock = A'.map (·.block) := by cases A' <;> rfl
  have hblk : ∀ g, A'.map (·.block) = some g → Gn G V (w1.setCell ⟨Bv, 0, none⟩ (.slice A' (vs ++ [x]).length c')) g ∧ g ≠ Bv := fun g e => by
    rw [hob', e, hob] at hat
    rcases hat with h | h
    · have := hg g h.symm
      exact ⟨.inl this, fun e => hGb (e ▸ this)⟩
    · injection h with h
      subst h
      have := hgr.size
      have hl : (V.alloc (.cells #[.int .i64 x] 3)).heap.size < w1.heap.size := (hO.block _ e).2
      refine ⟨.inr ⟨by simp, by simpa [World.setCell] using hl⟩, by simp; omega⟩
  refine ⟨A', c', by simpa using hk1.set_ 0 (.slice A' (vs ++ [x]).length c'), ?_, fun g e => (hblk g e).1⟩
  exact hO.aside ((Aside.refl (fun k => k = Bv) w1).setCell (p := ⟨Bv, 0, none⟩) (.inr rfl) _) fun g e => (hblk g e).2

/-- The victims among events. -/
def vicP (l : List EvP) : List Int := (l.filter (fun e => e.what == 3)).map EvP.f
theorem vicP_snoc (l : List EvP) (e : EvP) : vicP (l ++ [e]) = vicP l ++ (if e.what = 3 then [e.f] else []) := by
  unfold vicP
  rw [List.filter_append, List.map_append]
  congr 1
  by_cases h : e.what = 3 <;> simp [h]
theorem vicP_len (l : List EvP) : (vicP l).length ≤ l.length := by unfold vicP; rw [List.length_map]; exact List.length_filter_le _ _
theorem evs_len (T : Int) : ∀ (n : Nat) (xs ys : List Int) (rs : List Bool) (mv : List Int), (evs T n xs ys rs mv).length ≤ n
  | 0, _, _, _, _ => by simp [evs]
  | n + 1, _, _, _, _ => by
    unfold evs
    split
    · simp
    · rw [List.length_cons]
      exact Nat.succ_le_succ (evs_len T n _ _ _ _)
theorem full_len {T : Int} {xs ys : List Int} {rs : List Bool} {mv : List Int} (hc : lruChk xs ys rs = 0) : (full T xs ys rs mv).length ≤ 2000 := by
  have h := evs_len T (phi xs ys rs + 1) xs ys rs mv
  have := chk_len hc
  have h2 : refC rs ys ≤ ys.length := List.countP_le_length
  unfold full
  unfold phi at *
  omega
/-- scan.Victims. -/
def vicS (T : Int) (xs ys : List Int) (rs : List Bool) : List Int × Int := if sndS xs ys rs (tgtB T) ≠ 0 then ([], sndS xs ys rs (tgtB T)) else (vicP (full T xs ys rs []), 0)
def VPost (R : List Int × Int) (w : World) (e : Ending) (w' : World) : Prop := ∃ A c, e = .returned (.tuple #[.slice A R.1.length c, .int .i64 R.2]) ∧ Sl w' (.int .i64) A R.1 ∧ Below w.heap.size w w'
end Go.Proofs.Ytiobbdfkimpfbaa
namespace Go.Proofs.Ytiobbdfkimpfbaa
set_option linter.unusedSimpArgs false
set_option linter.unusedVariables false
open Go.RowKit Go.Maps
open Go.Shelf
attribute [local go_sem] Oper.semAt_some

theorem Sl.ext_put {α : Type} {w : World} {mk : α → Value} {A : Option Addr} {xs : List α} (h : Sl w mk A xs) {D : Nat} {o o' : Obj} (hD : w.heap[D]? = some o) (ho : o.isCells = false := by rfl) : Sl (w.putObj D o') mk A xs := fun hn => by
  obtain ⟨b, off, e, hb, hc⟩ := h hn
  have hne : b ≠ D := fun e => by
    subst e
    have h0 := hc 0 _ (List.getElem?_eq_getElem hn)
    unfold World.cell? at h0
    rw [hD] at h0
    cases o <;> simp_all [Obj.isCells]
  refine ⟨b, off, e, by simpa using hb, fun j x hx => ?_⟩
  have := hc j x hx
  unfold World.cell? at this ⊢
  rw [World.putObj_heap_other hne]
  exact this

set_option maxRecDepth 100000 in
set_option maxHeartbeats 4000000 in
theorem Victims_bad (A1 A2 A3 : Option Addr) (c1 c2 c3 : Nat) (xs ys : List Int) (rs : List Bool) (T : Int) (w : World) (h : InMem w A1 A2 A3 xs ys rs) {z : Int} (hz : sndS xs ys rs (tgtB T) = z) (h0 : z ≠ 0) :
    Calls Try.prog 23 #[.agg #[.slice A1 xs.length c1, .slice A2 ys.length c2, .slice A3 rs.length c3], .int .i64 T] w (VPost (vicS T xs ys rs) w) := by
  have HE : Hid (vicS T xs ys rs = ([], z)) := by show _ = _; unfold vicS; rw [hz, if_pos h0]
  rw [HE.out]
  have HM := Lib.hid h; have HZ := Lib.hid hz
  have nz : (z != 0) = true := by simpa using h0
  clear h hz h0
  obtain ⟨X, hX⟩ : ∃ X, w.alloc (.cells #[.slice A1 xs.length c1, .slice A2 ys.length c2, .slice A3 rs.length c3] 25) = X := ⟨_, rfl⟩
  have k1 : Blk X w.heap.size 25 #[.slice A1 xs.length c1, .slice A2 ys.length c2, .slice A3 rs.length c3] := by rw [← hX]; exact Blk.new_ rfl rfl
  have HBX : Hid (Below w.heap.size w X) := by show Below _ _ _; rw [← hX]; exact (Below.refl _ _).alloc (Nat.le_refl _) _
  go_enter Try.func23, Try.ntmps23
  go_wp2_with fail
  (try rw [hX])
  clear hX
  refine wp_region_chain2 [1, 0, 1, 1, 0] [[], [], [], [], []] [.kn ?fan0, .is ?fan1, .kn (.bool (tgtB T)), .kn (.int .i64 z), .is ?fan4] (by rfl) (by rfl) (by kernel_rfl) (by kernel_rfl) (by kernel_rfl) (by kernel_rfl) (by kernel_rfl) (by kernel_rfl) (lts_kn (lts_is (lts_kn (lts_kn (lts_is lts_nil))))) (fun W0 hb0 hz0 => ?_)
  rotate_left 3
  rw [show lateIdx [1, 0, 1, 1, 0] = [] from by rfl]
  have hb1 := HBX.out.trans (hb0.mono HBX.out.size)
  have kW := k1.below_ hb0 k1.lt
  have zW := kW.lt
  have p0 : W0.cell? ⟨w.heap.size, 0, none⟩ = some (.slice A1 xs.length c1) := (kW.cell_ 0).trans (by simp)
  have p1 : W0.cell? ⟨w.heap.size, 1, none⟩ = some (.slice A2 ys.length c2) := (kW.cell_ 1).trans (by simp)
  have p2 : W0.cell? ⟨w.heap.size, 2, none⟩ = some (.slice A3 rs.length c3) := (kW.cell_ 2).trans (by simp)
  refine chn_kn (stp_take (by rfl) ?yan0) ?ran0
  case yan0 =>
    intro w hbw hd
    have r0 := cell_keep hbw p0 zW
    have r1 := cell_keep hbw p1 zW
    have r2 := cell_keep hbw p2 zW
    clear hd
    go_simp
    first | done | with_reducible rfl
  (try simp only [Act.put, List.setIfInBounds_toArray, List.set_cons_zero, List.set_cons_succ, List.nil_append, List.cons_append, Nat.reduceAdd])
  refine chn_is (stp_pure (by rfl) ?yan1) ?ran1
  case yan1 =>
    intro w
    go_simp
    first | done | with_reducible rfl
  (try simp only [Act.put, List.setIfInBounds_toArray, List.set_cons_zero, List.set_cons_succ, List.nil_append, List.cons_append, Nat.reduceAdd])
  refine chn_kn ?san2 ?ran2
  case san2 =>
    intro w hbw hd K Q' hK
    clear hd
    go_simp
    refine (isTarget_any T _).mono ?_
    rintro e y ⟨rfl, rfl⟩
    go_wp2_with fail
    refine hK.out (.bool (tgtB T)) _ _ ?_ ?_ rfl
    · (simp only [Act.put, List.setIfInBounds_toArray, List.set_cons_zero, List.set_cons_succ, List.nil_append, List.cons_append, Nat.reduceAdd])
    · exact (by repeat' (first | with_reducible exact Below.refl _ _ | with_reducible assumption | with_reducible apply Below.drew | with_reducible apply below_drewN | with_reducible apply Below.alloc | with_reducible apply Below.setCell | (with_reducible refine Below.trans ?_ (Below.mono (by assumption) ?_)) | (simp; done) | (simp; omega) | omega | with_reducible apply le_size_alloc | with_reducible apply le_size_drewN | with_reducible apply le_size_drew | with_reducible apply le_size_setCell | with_reducible refine Nat.le_trans ?_ (Below.size (by assumption))))
  (try simp only [Act.put, List.setIfInBounds_toArray, List.set_cons_zero, List.set_cons_succ, List.nil_append, List.cons_append, Nat.reduceAdd])
  refine chn_kn ?san3 ?ran3
  case san3 =>
    intro w hbw hd K Q' hK
    clear hd
    go_simp
    refine (sound_any A1 A2 A3 c1 c2 c3 xs ys rs (tgtB T) _ (HM.out.ext (hb1.trans (hbw.mono hb1.size)))).mono ?_
    rw [HZ.out]
    rintro e y ⟨rfl, hy⟩
    go_wp2_with fail
    refine hK.out (.int .i64 z) _ _ ?_ ?_ rfl
    · (simp only [Act.put, List.setIfInBounds_toArray, List.set_cons_zero, List.set_cons_succ, List.nil_append, List.cons_append, Nat.reduceAdd])
    · exact (by repeat' (first | with_reducible exact Below.refl _ _ | with_reducible assumption | with_reducible apply Below.drew | with_reducible apply below_drewN | with_reducible apply Below.alloc | with_reducible apply Below.setCell | (with_reducible refine Below.trans ?_ (Below.mono (by assumption) ?_)) | (simp; done) | (simp; omega) | omega | with_reducible apply le_size_alloc | with_reducible apply le_size_drewN | with_reducible apply le_size_drew | with_reducible apply le_size_setCell | with_reducible refine Nat.le_trans ?_ (Below.size (by assumption))))
  (try simp only [Act.put, List.setIfInBounds_toArray, List.set_cons_zero, List.set_cons_succ, List.nil_append, List.cons_append, Nat.reduceAdd])
  refine chn_is (stp_pure (by rfl) ?yan4) ?ran4
  case yan4 =>
    intro w
    go_simp
    first | done | with_reducible rfl
  (try simp only [Act.put, List.setIfInBounds_toArray, List.set_cons_zero, List.set_cons_succ, List.nil_append, List.cons_append, Nat.reduceAdd])
  refine chn_end (fun wz lo hi hbz hd hR => ?_)
  have HB4 := Lib.hid (hb1.trans (hbz.mono hb1.size))
  have K1 := Lib.hid (kW.below_ hbz zW)
  have HX4 := Lib.hid (hb0.trans (hbz.mono hb0.size))
  clear hd hR p0 p1 p2 zW kW hb1 k1 hb0 hbz hz0 HBX
  refine late_none ?_
  obtain ⟨x4, rfl⟩ : ∃ x4 : World, x4 = wz := ⟨_, rfl⟩
  go_wp2_with fail
  refine bodyPost_ret (v := .tuple #[.slice none 0 0, .int .i64 z]) (by simp [results, Try.results23, go_sem]) rfl ?_
  exact ⟨none, 0, rfl, Sl.nil, HB4.out⟩

set_option maxRecDepth 100000 in
set_option maxHeartbeats 4000000 in
theorem Victims_in (n : Nat) (hn : 6 ≤ n) (A1 A2 A3 : Option Addr) (c1 c2 c3 : Nat) (xs ys : List Int) (rs : List Bool) (T : Int) (w : World) (h : InMem w A1 A2 A3 xs ys rs) (hz : sndS xs ys rs (tgtB T) = 0) :
    CallsIn Fence.wide n Try.prog 23 #[.agg #[.slice A1 xs.length c1, .slice A2 ys.length c2, .slice A3 rs.length c3], .int .i64 T] w (VPost (vicS T xs ys rs) w) := by
  have HE : Hid (vicS T xs ys rs = (vicP (full T xs ys rs []), 0)) := by show _ = _; unfold vicS; rw [hz, if_neg (by simp)]
  rw [HE.out]
  have HC := Lib.hid (snd_ok hz).1
  have HFL := Lib.hid (full_len (T := T) (mv := []) (snd_ok hz).1)
  have HM := Lib.hid h; have HZ := Lib.hid hz
  clear h hz
  obtain ⟨z, hz⟩ : ∃ z : Int, z = 0 := ⟨_, rfl⟩
  rw [← hz] at HZ
  have HZ0 := Lib.hid hz
  clear hz
  obtain ⟨i0, hi0, hz0, hz1, hz2⟩ := info_parts intInfo
  have h1 : 1 ≤ n := by omega
  obtain ⟨X, hX⟩ : ∃ X, w.alloc (.cells #[.slice A1 xs.length c1, .slice A2 ys.length c2, .slice A3 rs.length c3] 25) = X := ⟨_, rfl⟩
  have k1 : Blk X w.heap.size 25 #[.slice A1 xs.length c1, .slice A2 ys.length c2, .slice A3 rs.length c3] := by rw [← hX]; exact Blk.new_ rfl rfl
  have HBX : Hid (Below w.heap.size w X) := by show Below _ _ _; rw [← hX]; exact (Below.refl _ _).alloc (Nat.le_refl _) _
  refine callsIn_of_wp_marks Try.func23 rfl trivial ?_ rfl
  simp only [Try.ntmps23, List.size_toArray, List.length_cons, List.length_nil, Nat.reduceAdd, Nat.reduceSub, Array.replicate_succ, Array.replicate_zero, List.push_toArray, List.append_toArray, List.nil_append, List.cons_append]
  gi_wp2_with fail
  (try rw [hX])
  clear hX
  refine wpIn_region_chain2 (.inl rfl) (by omega) (by kernel_rfl) [1, 0, 1, 1, 0] [[], [], [], [], []] [.kn ?fan0, .is ?fan1, .kn (.bool (tgtB T)), .kn (.int .i64 z), .is ?fan4] (by rfl) (by rfl) (by kernel_rfl) (by kernel_rfl) (by kernel_rfl) (by kernel_rfl) (by kernel_rfl) (by kernel_rfl) (lts_kn (lts_is (lts_kn (lts_kn (lts_is lts_nil))))) (fun W0 hb0 hz0 => ?_)
  rotate_left 3
  rw [show lateIdx [1, 0, 1, 1, 0] = [] from by rfl]
  have hb1 := HBX.out.trans (hb0.mono HBX.out.size)
  have kW := k1.below_ hb0 k1.lt
  have zW := kW.lt
  have p0 : W0.cell? ⟨w.heap.size, 0, none⟩ = some (.slice A1 xs.length c1) := (kW.cell_ 0).trans (by simp)
  have p1 : W0.cell? ⟨w.heap.size, 1, none⟩ = some (.slice A2 ys.length c2) := (kW.cell_ 1).trans (by simp)
  have p2 : W0.cell? ⟨w.heap.size, 2, none⟩ = some (.slice A3 rs.length c3) := (kW.cell_ 2).trans (by simp)
  refine chn_kn (stp_take (by rfl) ?yan0) ?ran0
  case yan0 =>
    intro w hbw hd
    have r0 := cell_keep hbw p0 zW
    have r1 := cell_keep hbw p1 zW
    have r2 := cell_keep hbw p2 zW
    clear hd
    go_simp
    first | done | with_reducible rfl
  (try simp only [Act.put, List.setIfInBounds_toArray, List.set_cons_zero, List.set_cons_succ, List.nil_append, List.cons_append, Nat.reduceAdd])
  refine chn_is (stp_pure (by rfl) ?yan1) ?ran1
  case yan1 =>
    intro w
    go_simp
    first | done | with_reducible rfl
  (try simp only [Act.put, List.setIfInBounds_toArray, List.set_cons_zero, List.set_cons_succ, List.nil_append, List.cons_append, Nat.reduceAdd])
  refine chn_kn ?san2 ?ran2
  case san2 =>
    intro w hbw hd K Q' hK
    clear hd
    go_simp
    refine (isTarget_any T _).mono ?_
    rintro e y ⟨rfl, rfl⟩
    go_wp2_with fail
    refine hK.out (.bool (tgtB T)) _ _ ?_ ?_ rfl
    · (simp only [Act.put, List.setIfInBounds_toArray, List.set_cons_zero, List.set_cons_succ, List.nil_append, List.cons_append, Nat.reduceAdd])
    · exact (by repeat' (first | with_reducible exact Below.refl _ _ | with_reducible assumption | with_reducible apply Below.drew | with_reducible apply below_drewN | with_reducible apply Below.alloc | with_reducible apply Below.setCell | (with_reducible refine Below.trans ?_ (Below.mono (by assumption) ?_)) | (simp; done) | (simp; omega) | omega | with_reducible apply le_size_alloc | with_reducible apply le_size_drewN | with_reducible apply le_size_drew | with_reducible apply le_size_setCell | with_reducible refine Nat.le_trans ?_ (Below.size (by assumption))))
  (try simp only [Act.put, List.setIfInBounds_toArray, List.set_cons_zero, List.set_cons_succ, List.nil_append, List.cons_append, Nat.reduceAdd])
  refine chn_kn ?san3 ?ran3
  case san3 =>
    intro w hbw hd K Q' hK
    clear hd
    go_simp
    refine (sound_any A1 A2 A3 c1 c2 c3 xs ys rs (tgtB T) _ (HM.out.ext (hb1.trans (hbw.mono hb1.size)))).mono ?_
    rw [HZ.out]
    rintro e y ⟨rfl, hy⟩
    go_wp2_with fail
    refine hK.out (.int .i64 z) _ _ ?_ ?_ rfl
    · (simp only [Act.put, List.setIfInBounds_toArray, List.set_cons_zero, List.set_cons_succ, List.nil_append, List.cons_append, Nat.reduceAdd])
    · exact (by repeat' (first | with_reducible exact Below.refl _ _ | with_reducible assumption | with_reducible apply Below.drew | with_reducible apply below_drewN | with_reducible apply Below.alloc | with_reducible apply Below.setCell | (with_reducible refine Below.trans ?_ (Below.mono (by assumption) ?_)) | (simp; done) | (simp; omega) | omega | with_reducible apply le_size_alloc | with_reducible apply le_size_drewN | with_reducible apply le_size_drew | with_reducible apply le_size_setCell | with_reducible refine Nat.le_trans ?_ (Below.size (by assumption))))
  (try simp only [Act.put, List.setIfInBounds_toArray, List.set_cons_zero, List.set_cons_succ, List.nil_append, List.cons_append, Nat.reduceAdd])
  refine chn_is (stp_pure (by rfl) ?yan4) ?ran4
  case yan4 =>
    intro w
    go_simp
    first | done | with_reducible rfl
  (try simp only [Act.put, List.setIfInBounds_toArray, List.set_cons_zero, List.set_cons_succ, List.nil_append, List.cons_append, Nat.reduceAdd])
  refine chn_end (fun wz lo hi hbz hd hR => ?_)
  have HB4 := Lib.hid (hb1.trans (hbz.mono hb1.size))
  have K1 := Lib.hid (kW.below_ hbz zW)
  have HX4 := Lib.hid (hb0.trans (hbz.mono hb0.size))
  clear hd hR p0 p1 p2 zW kW hb1 k1 hb0 hbz hz0 HBX
  refine late_none ?_
  obtain ⟨x4, rfl⟩ : ∃ x4 : World, x4 = wz := ⟨_, rfl⟩
  have hz := HZ0.out
  subst hz
  have kl1 := K1.out.lt
  have q0 : x4.cell? ⟨w.heap.size, 0, none⟩ = some (.slice A1 xs.length c1) := (K1.out.cell_ 0).trans (by simp)
  have q1 : x4.cell? ⟨w.heap.size, 1, none⟩ = some (.slice A2 ys.length c2) := (K1.out.cell_ 1).trans (by simp)
  have q2 : x4.cell? ⟨w.heap.size, 2, none⟩ = some (.slice A3 rs.length c3) := (K1.out.cell_ 2).trans (by simp)
  gi_wp2_with fail
  obtain ⟨X, hX⟩ : ∃ X, x4.alloc (.cells #[.slice none 0 0] 22) = X := ⟨_, rfl⟩
  have bX : Below x4.heap.size x4 X := by rw [← hX]; exact (Below.refl _ _).alloc (Nat.le_refl _) _
  have kv : Blk X x4.heap.size 22 #[.slice none 0 0] := by rw [← hX]; exact Blk.new_ rfl rfl
  have HBX := Lib.hid (HB4.out.trans (bX.mono HB4.out.size))
  have sX : X.heap.size = x4.heap.size + 1 := by rw [← hX]; simp
  (try rw [hX])
  clear hX q0 q1 q2
  refine ⟨trivial, (callsIn_wide.2 (sweep_any A1 A2 A3 xs.length ys.length rs.length c1 c2 c3 T X)).mono ?_⟩
  rintro e W ⟨rfl, hW⟩
  have sW : W.heap.size = X.heap.size + 2 := by rw [hW]; simp
  have bW : Below X.heap.size X W := by rw [hW]; exact ((Below.refl _ _).alloc (Nat.le_refl _) _).alloc (by simp) _
  have kl : Blk W X.heap.size 25 #[.slice A1 xs.length c1, .slice A2 ys.length c2, .slice A3 rs.length c3] := by rw [hW]; exact (Blk.new_ rfl rfl).alloc_ _
  have kt : Blk W (X.heap.size + 1) 3 #[.int .i64 T] := by rw [hW]; exact Blk.new_ (by simp) rfl
  have BW := Lib.hid (HBX.out.trans (bW.mono HBX.out.size))
  have MW : InMem W A1 A2 A3 xs ys rs := HM.out.ext BW.out
  have VW : VB w.heap.size x4.heap.size [] (fun _ => False) W := ⟨none, 0, kv.below_ bW (by omega), World.ownsRow_nil _ _ _ _, fun g e => by cases e⟩
  have zx := HB4.out.size
  have HSX := Lib.hid sX; have HSW := Lib.hid sW
  clear hW bX kv bW sX sW
  gi_wp2_with fail
  have sX := HSX.out; have sW := HSW.out
  have nn : ∀ k (G : Nat → Prop) s, k < W.heap.size → ¬ ¬ (Theirs W.heap.size (fun _ => False) G k ∨ EvH s k) := fun k G s h1 hn => hn (.inl (.inr ⟨h1, fun h => h⟩))
  refine wpIn_rangeH rfl h1 (gf := 75) (lb := #[.pointer (some ⟨X.heap.size, 0, none⟩), .pointer (some ⟨X.heap.size + 1, 0, none⟩)]) rfl trivial (enters_of Try.func75 (by kernel_rfl) rfl)
    (sweep1_in Fence.wide (n - 1) trivial rfl (by omega) rfl X.heap.size (X.heap.size + 1) A1 A2 A3 c1 c2 c3 xs ys rs T (fun b => b = x4.heap.size) W MW HC.out kl kt (fun b hb => by omega))
    (fun _ => rfl) (fun b hb => hb.elim) (fun x V1 V2 hm hs ha => ⟨hm.1.aside ha (hm.2.1.sub fun k hk => by omega), hm.2⟩)
    (fun pre G V => VB w.heap.size x4.heap.size (vicP (pre.map EV.pl)) G V ∧ Below w.heap.size w V)
    (fun _ _ _ _ => False)
    (fun pre G V1 V2 ⟨h1, h2⟩ hs ha => ⟨h1.aside ha (nn _ G pre (by omega)) (fun g hg hn => hn (.inl (.inl hg))), h2.trans (ha.below (by omega) (fun k hk => nn k G pre (by omega)))⟩)
    (fun _ _ _ _ _ h _ _ => h)
    (fun _ _ _ _ h hG => ⟨h.1.mono hG, h.2⟩) (fun _ _ _ _ _ h _ => h)
    evH_nil evH_snoc (fun x V b hm hb => by have := EV.mem_lo hm hb; omega)
    ⟨VW, BW.out⟩
    (fun x a' V => ∃ B8, W.heap.size + 2 ≤ B8 ∧ Blk V B8 82 #[.int .i64 x.what, .int .i64 x.f, .slice x.A1 x.xs.length x.c1, .slice x.A2 x.ys.length x.c2, .slice x.A3 x.rs.length x.c3, .int .i64 T, .int .i64 x.f, .int .u64 (wrd 0 x.mv), .int .u64 (wrd 1 x.mv), .int .u64 (wrd 2 x.mv), .int .u64 (wrd 3 x.mv)] ∧ a' = { tmps := #[.agg #[.slice A1 xs.length c1, .slice A2 ys.length c2, .slice A3 rs.length c3], .int .i64 T, .pointer (some ⟨w.heap.size, 0, none⟩), undef, .slice none 0 0, .int .i64 0, .int .i64 0, .pointer (some ⟨x4.heap.size, 0, none⟩), .pointer (some ⟨B8, 0, none⟩), .agg #[.slice A1 xs.length c1, .slice A2 ys.length c2, .slice A3 rs.length c3], .int .i64 T, .bool (tgtB T), .int .i64 0, .int .i64 0, .bool false, undef, .agg #[.slice A1 xs.length c1, .slice A2 ys.length c2, .slice A3 rs.length c3], .int .i64 T, .func (.func 75) #[] #[.pointer (some ⟨X.heap.size, 0, none⟩), .pointer (some ⟨X.heap.size + 1, 0, none⟩)], .agg #[.int .i64 x.what, .int .i64 x.f, .slice x.A1 x.xs.length x.c1, .slice x.A2 x.ys.length x.c2, .slice x.A3 x.rs.length x.c3, .int .i64 T, .int .i64 x.f, .int .u64 (wrd 0 x.mv), .int .u64 (wrd 1 x.mv), .int .u64 (wrd 2 x.mv), .int .u64 (wrd 3 x.mv)], undef, undef, undef, undef, undef, undef, undef, undef, undef], defers := [] })
    (fun x a' V1 V2 ⟨B8, h1, h2, h3⟩ hs ha => ⟨B8, h1, ha.blk h2 (by omega), h3⟩)
    (fun x V1 V2 hm hb => ⟨hm.1.ext hb, hm.2⟩) ?assign ?body ?done ?stop
  case assign =>
    intro lp x V K hV hK
    clear sX sW
    simp only [EV.enc]
    gi_wp2
    exact hK _ _ ⟨V.heap.size, hV, Blk.new_ rfl rfl, rfl⟩ ((Below.refl _ _).alloc (Nat.le_refl _) _)
  case body =>
    rintro lp pre x G V a' ⟨hv, hb⟩ hm ⟨B8, hB8, k8, rfl⟩ hlen hsz hG _
    have e0 : V.cell? ⟨B8, 0, none⟩ = some (.int .i64 x.what) := (k8.cell_ 0).trans (by simp)
    have e1 : V.cell? ⟨B8, 1, none⟩ = some (.int .i64 x.f) := (k8.cell_ 1).trans (by simp)
    have hvl : (vicP (pre.map EV.pl)).length ≤ 2000 := by have := vicP_len (pre.map EV.pl); rw [List.length_map] at this; have := HFL.out; omega
    have HBB := Lib.hid hb
    have HEX : Hid (vicP ((pre ++ [x]).map EV.pl) = vicP (pre.map EV.pl) ++ (if x.what = 3 then [x.f] else [])) := by show _ = _; rw [List.map_append]; exact vicP_snoc _ _
    have hbs := hb.size
    clear hb k8 hm sX sW
    by_cases h3 : x.what = 3
    · have h3b : (x.what == 3) = true := by simpa using h3
      have HEX2 : Hid (vicP ((pre ++ [x]).map EV.pl) = vicP (pre.map EV.pl) ++ [x.f]) := by show _ = _; rw [HEX.out, if_pos h3]
      clear HEX h3
      obtain ⟨A, c, kb, ho, hg⟩ := hv
      have hc0 : V.cell? ⟨x4.heap.size, 0, none⟩ = some (.slice A (vicP (pre.map EV.pl)).length c) := (kb.cell_ 0).trans (by simp)
      have KB := Lib.hid kb; have HO := Lib.hid ho; have HG := Lib.hid hg; have HGG := Lib.hid hG
      have hzx : w.heap.size ≤ x4.heap.size := zx
      clear kb ho hg hG
      gi_wp2_with (gi_at_builtin; refine wpListIn_app_at _ rfl _ _ 22 rfl w.heap.size 3 i0 (.int .i64 0) 1 8 Try.underlying22 hi0 hz0 hz1 hz2 rfl (by decide) _ _ _ rfl (World.ownsRow.alloc HO.out _) ⟨V.heap.size, 0, none⟩ 1 1 [.int .i64 x.f] rfl rfl (cell_one_new _ _ _) (by simp [Value.oneCell']) (by unfold maxLen; omega) (by omega) (by simp; omega) ?_; intro v' w1 hown' hgrow hat; obtain ⟨g', cap', rfl⟩ := ownsRow_succ hown'; obtain ⟨hk1, ha1, hko, hbl, hvb⟩ := VB.app KB.out HO.out hbs hzx HG.out (fun hh => by have := HGG.out _ hh; have := HSX.out; have := HSW.out; omega) (fun g hh => (HGG.out g hh).2) hown' hgrow hat; have hc1 : w1.cell? ⟨x4.heap.size, 0, none⟩ = some (.slice A (vicP (pre.map EV.pl)).length c) := (hk1.cell_ 0).trans (by simp); have hf1 := hk1.frozen_ 0; have HVB := Lib.hid hvb; have HA1 := Lib.hid ha1; have HKO := Lib.hid hko; have HBL := Lib.hid hbl; clear hvb ha1 hko hbl hown' hgrow hat hk1)
      exact ⟨HKO.out.from _, (HA1.out.wide fun k _ h => .inl h).setCell (p := ⟨x4.heap.size, 0, none⟩) (.inr (.inr rfl)) _, by rw [HEX2.out]; exact HVB.out, HBB.out.trans HBL.out⟩
    · have h3b : (x.what == 3) = false := by simpa using h3
      have HEX2 : Hid (vicP ((pre ++ [x]).map EV.pl) = vicP (pre.map EV.pl)) := by show _ = _; rw [HEX.out, if_neg h3, List.append_nil]
      have HV := Lib.hid hv
      clear HEX h3 hv
      gi_wp2
      exact ⟨KeepsFrom.refl _ _, Aside.refl _ _, by rw [HEX2.out]; exact HV.out.mono fun g hg => .inl hg, HBB.out⟩
  case done =>
    rintro es G V hS ⟨hv, hb⟩ hsz hK
    rw [hS] at hv
    obtain ⟨A, c, kb, ho, hg⟩ := hv
    have hc0 : V.cell? ⟨x4.heap.size, 0, none⟩ = some (.slice A (vicP (full T xs ys rs [])).length c) := (kb.cell_ 0).trans (by simp)
    have HB := Lib.hid hb; have HO := Lib.hid ho
    clear kb hg hb ho sX
    have HK := Lib.hid hK
    clear hK
    gi_wp2
    show LeavesInM _ _ _ _ _ _ _ _ _
    refine ⟨by simp, .inl ⟨_, _, rfl, run_takeDeferred HK.out, ?_⟩⟩
    refine ⟨.tuple #[.slice A (vicP (full T xs ys rs [])).length c, .int .i64 0], by simp [results, Try.results23, go_sem], ?_⟩
    have sW := HSW.out
    refine ⟨A, c, rfl, (own_sl HO.out).ext_put HK.out, HB.out.trans (belowK_b (w := w) (Nat.le_refl _) V _ _ _ (by have := HSX.out; omega) HK.out rfl rfl)⟩
  case stop =>
    rintro c pre G V hSp h
    exact h.elim

theorem Victims_any (A1 A2 A3 : Option Addr) (c1 c2 c3 : Nat) (xs ys : List Int) (rs : List Bool) (T : Int) (w : World) (h : InMem w A1 A2 A3 xs ys rs) :
    Calls Try.prog 23 #[.agg #[.slice A1 xs.length c1, .slice A2 ys.length c2, .slice A3 rs.length c3], .int .i64 T] w (VPost (vicS T xs ys rs) w) := by
  by_cases h0 : sndS xs ys rs (tgtB T) = 0
  · exact callsIn_wide.1 (Victims_in 6 (Nat.le_refl _) A1 A2 A3 c1 c2 c3 xs ys rs T w h h0)
  · exact Victims_bad A1 A2 A3 c1 c2 c3 xs ys rs T w h rfl h0
end Go.Proofs.Ytiobbdfkimpfbaa
namespace Go.Proofs.Ytiobbdfkimpfbaa
set_option linter.unusedSimpArgs false
set_option linter.unusedVariables false
open Go.RowKit Go.Maps
open Go.Shelf
attribute [local go_sem] Oper.semAt_some

/-- The first victim, how many steps come ahead of it, the error. -/
def fstP : List EvP → Int → Int × Int × Int
  | [], _ => (0, 0, 6)
  | e :: t, k => if e.what = 3 then (e.f, k, 0) else fstP t (k + 1)
theorem fstP_none : ∀ (l : List EvP) (k : Int), (∀ e ∈ l, e.what ≠ 3) → fstP l k = (0, 0, 6)
  | [], _, _ => rfl
  | e :: t, k, h => by
    unfold fstP
    rw [if_neg (h e (by simp)), fstP_none t _ fun x hx => h x (by simp [hx])]
theorem fstP_hit : ∀ (l pre : List EvP) (x : EvP) (k : Int), pre ++ [x] <+: l → (∀ e ∈ pre, e.what ≠ 3) → x.what = 3 → fstP l k = (x.f, k + pre.length, 0)
  | [], pre, x, k, h, _, _ => by simp at h
  | e :: t, [], x, k, h, _, hx => by
    rw [List.nil_append, List.cons_prefix_cons] at h
    obtain ⟨rfl, _⟩ := h
    unfold fstP
    rw [if_pos hx]
    simp
  | e :: t, p :: pre, x, k, h, hp, hx => by
    rw [List.cons_append, List.cons_prefix_cons] at h
    obtain ⟨rfl, h⟩ := h
    unfold fstP
    rw [if_neg (hp _ (by simp)), fstP_hit t pre x _ h (fun y hy => hp y (by simp [hy])) hx]
    simp
    omega
def firS (T : Int) (xs ys : List Int) (rs : List Bool) : Int × Int × Int := if sndS xs ys rs (tgtB T) ≠ 0 then (0, 0, sndS xs ys rs (tgtB T)) else fstP (full T xs ys rs []) 0
def FPost (R : Int × Int × Int) (w : World) (e : Ending) (w' : World) : Prop := e = .returned (.tuple #[.int .i64 R.1, .int .i64 R.2.1, .int .i64 R.2.2]) ∧ Below w.heap.size w w'
/-- What lies in the variables of First. -/
def FV (B : Nat) (f n z : Int) (W : World) : Prop := Blk W (B + 1) 3 #[.int .i64 f] ∧ Blk W (B + 1 + 1) 3 #[.int .i64 n] ∧ Blk W (B + 1 + 1 + 1) 29 #[.int .i64 z]
theorem FV.aside {B : Nat} {f n z : Int} {W W' : World} {Z : Nat → Prop} (h : FV B f n z W) (ha : Aside Z W W') (h1 : ¬ Z (B + 1)) (h2 : ¬ Z (B + 1 + 1)) (h3 : ¬ Z (B + 1 + 1 + 1)) : FV B f n z W' := ⟨ha.blk h.1 h1, ha.blk h.2.1 h2, ha.blk h.2.2 h3⟩
theorem FV.below {B : Nat} {f n z : Int} {W W' : World} (h : FV B f n z W) (hb : Below W.heap.size W W') : FV B f n z W' := ⟨h.1.below_ hb h.1.lt, h.2.1.below_ hb h.2.1.lt, h.2.2.below_ hb h.2.2.lt⟩
theorem fv_put0 {B : Nat} {V : World} {a n z : Int} (h : FV B a n z V) (a' n' z' : Int) (U : World) (hU : ((V.setCell ⟨B + 1, 0, none⟩ (.int .i64 a')).setCell ⟨B + 1 + 1, 0, none⟩ (.int .i64 n')).setCell ⟨B + 1 + 1 + 1, 0, none⟩ (.int .i64 z') = U) :
    FV B a' n' z' U ∧ KeepsOthers V U ∧ V.heap.size ≤ U.heap.size ∧ ∀ w, Below B w V → Below B w U := by
  subst hU
  refine ⟨⟨?_, ?_, ?_⟩, ((KeepsOthers.setCell V _ _).trans (KeepsOthers.setCell _ _ _)).trans (KeepsOthers.setCell _ _ _), by simp [World.setCell], fun w hw => ((hw.setCell (p := ⟨B + 1, 0, none⟩) (show B ≤ B + 1 by omega) _).setCell (p := ⟨B + 1 + 1, 0, none⟩) (show B ≤ B + 1 + 1 by omega) _).setCell (p := ⟨B + 1 + 1 + 1, 0, none⟩) (show B ≤ B + 1 + 1 + 1 by omega) _⟩
  · refine Blk.far_ (p := ⟨B + 1 + 1 + 1, 0, none⟩) (Blk.far_ (p := ⟨B + 1 + 1, 0, none⟩) ?_ (by show B + 1 ≠ B + 1 + 1; omega) _) (by show B + 1 ≠ B + 1 + 1 + 1; omega) _
    simpa using h.1.set_ 0 (.int .i64 a')
  · refine Blk.far_ (p := ⟨B + 1 + 1 + 1, 0, none⟩) ?_ (by show B + 1 + 1 ≠ B + 1 + 1 + 1; omega) _
    simpa using (h.2.1.far_ (p := ⟨B + 1, 0, none⟩) (by show B + 1 + 1 ≠ B + 1; omega) (.int .i64 a')).set_ 0 (.int .i64 n')
  · simpa using ((h.2.2.far_ (p := ⟨B + 1, 0, none⟩) (by show B + 1 + 1 + 1 ≠ B + 1; omega) (.int .i64 a')).far_ (p := ⟨B + 1 + 1, 0, none⟩) (by show B + 1 + 1 + 1 ≠ B + 1 + 1; omega) (.int .i64 n')).set_ 0 (.int .i64 z')
theorem fv_put {B : Nat} {V : World} {a n z : Int} (h : FV B a n z V) (a' n' z' : Int) (U : World) (hU : (((V.setCell ⟨B + 1, 0, none⟩ (.int .i64 a')).setCell ⟨B + 1 + 1, 0, none⟩ (.int .i64 n')).setCell ⟨B + 1 + 1 + 1, 0, none⟩ (.int .i64 z')).drew = U) :
    FV B a' n' z' U ∧ KeepsOthers V U ∧ V.heap.size ≤ U.heap.size ∧ ∀ w, Below B w V → Below B w U := by
  subst hU
  obtain ⟨h1, h2, h3, h4⟩ := fv_put0 h a' n' z' _ rfl
  exact ⟨⟨h1.1.drew_, h1.2.1.drew_, h1.2.2.drew_⟩, h2.trans (KeepsOthers.drew _), h3, fun w hw => (h4 w hw).drew⟩

set_option maxRecDepth 100000 in
set_option maxHeartbeats 4000000 in
/-- Behind the last return. -/
theorem first_end {f nn z : Int} {w V : World} {n D : Nat} {R : Int × Int × Int} {ts : Array Value} (hv : FV w.heap.size f nn z V) (hb : Below w.heap.size w V) (hD : w.heap.size + 4 ≤ D) (hK : V.heap[D]? = some (.deferred (some []))) (hR : R = (f, nn, z))
    (h4 : ts[4]? = some (.pointer (some ⟨w.heap.size + 1, 0, none⟩))) (h5 : ts[5]? = some (.pointer (some ⟨w.heap.size + 1 + 1, 0, none⟩))) (h6 : ts[6]? = some (.pointer (some ⟨w.heap.size + 1 + 1 + 1, 0, none⟩))) :
    LeavesInM Fence.wide n Try.prog Try.f21 ts (FPost R w) [{ target := .collected D, args := #[] }] .returning V := by
  subst hR
  have kU : FV w.heap.size f nn z (V.putObj D (.deferred none)) := ⟨(World.putObj_heap_other (by omega)).trans hv.1, (World.putObj_heap_other (by omega)).trans hv.2.1, (World.putObj_heap_other (by omega)).trans hv.2.2⟩
  have bU : Below w.heap.size w (V.putObj D (.deferred none)) := hb.trans (belowK_b (w := w) (Nat.le_refl _) V D _ _ (by omega) hK rfl rfl)
  have p0 := kU.1.cell_ 0
  have p3 := kU.2.1.cell_ 0
  have p4 := kU.2.2.cell_ 0
  simp at p0 p3 p4
  refine ⟨by simp, .inl ⟨_, _, rfl, run_takeDeferred hK, ?_⟩⟩
  refine ⟨.tuple #[.int .i64 f, .int .i64 nn, .int .i64 z], ?_, rfl, bU⟩
  simp [results, Try.results21, go_sem, h4, h5, h6, p0, p3, p4]

set_option maxRecDepth 100000 in
set_option maxHeartbeats 4000000 in
theorem First_bad (A1 A2 A3 : Option Addr) (c1 c2 c3 : Nat) (xs ys : List Int) (rs : List Bool) (T : Int) (w : World) (h : InMem w A1 A2 A3 xs ys rs) {z : Int} (hz : sndS xs ys rs (tgtB T) = z) (h0 : z ≠ 0) :
    Calls Try.prog 21 #[.agg #[.slice A1 xs.length c1, .slice A2 ys.length c2, .slice A3 rs.length c3], .int .i64 T] w (FPost (firS T xs ys rs) w) := by
  have HE : Hid (firS T xs ys rs = (0, 0, z)) := by show _ = _; unfold firS; rw [hz, if_pos h0]
  rw [HE.out]
  have HM := Lib.hid h; have HZ := Lib.hid hz
  have nz : (z != 0) = true := by simpa using h0
  clear h hz h0
  obtain ⟨X, hX⟩ : ∃ X, (((w.alloc (.cells #[.slice A1 xs.length c1, .slice A2 ys.length c2, .slice A3 rs.length c3] 25)).alloc (.cells #[.int .i64 0] 3)).alloc (.cells #[.int .i64 0] 3)).alloc (.cells #[.int .i64 0] 29) = X := ⟨_, rfl⟩
  have k1 : Blk X w.heap.size 25 #[.slice A1 xs.length c1, .slice A2 ys.length c2, .slice A3 rs.length c3] := by rw [← hX]; exact (((Blk.new_ rfl rfl).alloc_ _).alloc_ _).alloc_ _
  have HFV : Hid (FV w.heap.size 0 0 0 X) := by
    show FV _ _ _ _ _
    rw [← hX]
    exact ⟨((Blk.new_ (by simp) rfl).alloc_ _).alloc_ _, (Blk.new_ (by simp) rfl).alloc_ _, Blk.new_ (by simp) rfl⟩
  have HBX : Hid (Below w.heap.size w X) := by show Below _ _ _; rw [← hX]; exact (((Below.refl _ _).alloc (Nat.le_refl _) _).alloc (by simp) _).alloc (by simp; omega) _ |>.alloc (by simp; omega) _
  go_enter Try.func21, Try.ntmps21
  go_wp2_with fail
  (try rw [hX])
  clear hX
  refine wp_region_chain2 [1, 0, 1, 1, 0] [[], [], [], [], []] [.kn ?fan0, .is ?fan1, .kn (.bool (tgtB T)), .kn (.int .i64 z), .is ?fan4] (by rfl) (by rfl) (by kernel_rfl) (by kernel_rfl) (by kernel_rfl) (by kernel_rfl) (by kernel_rfl) (by kernel_rfl) (lts_kn (lts_is (lts_kn (lts_kn (lts_is lts_nil))))) (fun W0 hb0 hz0 => ?_)
  rotate_left 3
  rw [show lateIdx [1, 0, 1, 1, 0] = [] from by rfl]
  have hb1 := HBX.out.trans (hb0.mono HBX.out.size)
  have kW := k1.below_ hb0 k1.lt
  have zW := kW.lt
  have p0 : W0.cell? ⟨w.heap.size, 0, none⟩ = some (.slice A1 xs.length c1) := (kW.cell_ 0).trans (by simp)
  have p1 : W0.cell? ⟨w.heap.size, 1, none⟩ = some (.slice A2 ys.length c2) := (kW.cell_ 1).trans (by simp)
  have p2 : W0.cell? ⟨w.heap.size, 2, none⟩ = some (.slice A3 rs.length c3) := (kW.cell_ 2).trans (by simp)
  refine chn_kn (stp_take (by rfl) ?yan0) ?ran0
  case yan0 =>
    intro w hbw hd
    have r0 := cell_keep hbw p0 zW
    have r1 := cell_keep hbw p1 zW
    have r2 := cell_keep hbw p2 zW
    clear hd
    go_simp
    first | done | with_reducible rfl
  (try simp only [Act.put, List.setIfInBounds_toArray, List.set_cons_zero, List.set_cons_succ, List.nil_append, List.cons_append, Nat.reduceAdd])
  refine chn_is (stp_pure (by rfl) ?yan1) ?ran1
  case yan1 =>
    intro w
    go_simp
    first | done | with_reducible rfl
  (try simp only [Act.put, List.setIfInBounds_toArray, List.set_cons_zero, List.set_cons_succ, List.nil_append, List.cons_append, Nat.reduceAdd])
  refine chn_kn ?san2 ?ran2
  case san2 =>
    intro w hbw hd K Q' hK
    clear hd
    go_simp
    refine (isTarget_any T _).mono ?_
    rintro e y ⟨rfl, rfl⟩
    go_wp2_with fail
    refine hK.out (.bool (tgtB T)) _ _ ?_ ?_ rfl
    · (simp only [Act.put, List.setIfInBounds_toArray, List.set_cons_zero, List.set_cons_succ, List.nil_append, List.cons_append, Nat.reduceAdd])
    · exact (by repeat' (first | with_reducible exact Below.refl _ _ | with_reducible assumption | with_reducible apply Below.drew | with_reducible apply below_drewN | with_reducible apply Below.alloc | with_reducible apply Below.setCell | (with_reducible refine Below.trans ?_ (Below.mono (by assumption) ?_)) | (simp; done) | (simp; omega) | omega | with_reducible apply le_size_alloc | with_reducible apply le_size_drewN | with_reducible apply le_size_drew | with_reducible apply le_size_setCell | with_reducible refine Nat.le_trans ?_ (Below.size (by assumption))))
  (try simp only [Act.put, List.setIfInBounds_toArray, List.set_cons_zero, List.set_cons_succ, List.nil_append, List.cons_append, Nat.reduceAdd])
  refine chn_kn ?san3 ?ran3
  case san3 =>
    intro w hbw hd K Q' hK
    clear hd
    go_simp
    refine (sound_any A1 A2 A3 c1 c2 c3 xs ys rs (tgtB T) _ (HM.out.ext (hb1.trans (hbw.mono hb1.size)))).mono ?_
    rw [HZ.out]
    rintro e y ⟨rfl, hy⟩
    go_wp2_with fail
    refine hK.out (.int .i64 z) _ _ ?_ ?_ rfl
    · (simp only [Act.put, List.setIfInBounds_toArray, List.set_cons_zero, List.set_cons_succ, List.nil_append, List.cons_append, Nat.reduceAdd])
    · exact (by repeat' (first | with_reducible exact Below.refl _ _ | with_reducible assumption | with_reducible apply Below.drew | with_reducible apply below_drewN | with_reducible apply Below.alloc | with_reducible apply Below.setCell | (with_reducible refine Below.trans ?_ (Below.mono (by assumption) ?_)) | (simp; done) | (simp; omega) | omega | with_reducible apply le_size_alloc | with_reducible apply le_size_drewN | with_reducible apply le_size_drew | with_reducible apply le_size_setCell | with_reducible refine Nat.le_trans ?_ (Below.size (by assumption))))
  (try simp only [Act.put, List.setIfInBounds_toArray, List.set_cons_zero, List.set_cons_succ, List.nil_append, List.cons_append, Nat.reduceAdd])
  refine chn_is (stp_pure (by rfl) ?yan4) ?ran4
  case yan4 =>
    intro w
    go_simp
    first | done | with_reducible rfl
  (try simp only [Act.put, List.setIfInBounds_toArray, List.set_cons_zero, List.set_cons_succ, List.nil_append, List.cons_append, Nat.reduceAdd])
  refine chn_end (fun wz lo hi hbz hd hR => ?_)
  have HB4 := Lib.hid (hb1.trans (hbz.mono hb1.size))
  have K1 := Lib.hid (kW.below_ hbz zW)
  have HX4 := Lib.hid (hb0.trans (hbz.mono hb0.size))
  clear hd hR p0 p1 p2 zW kW hb1 k1 hb0 hbz hz0 HBX
  refine late_none ?_
  obtain ⟨x4, rfl⟩ : ∃ x4 : World, x4 = wz := ⟨_, rfl⟩
  have HV4 := Lib.hid (HFV.out.below HX4.out)
  have p4 : x4.cell? ⟨w.heap.size + 1, 0, none⟩ = some (.int .i64 0) := (HV4.out.1.cell_ 0).trans (by simp)
  have p5 : x4.cell? ⟨w.heap.size + 1 + 1, 0, none⟩ = some (.int .i64 0) := (HV4.out.2.1.cell_ 0).trans (by simp)
  have p6 : x4.cell? ⟨w.heap.size + 1 + 1 + 1, 0, none⟩ = some (.int .i64 0) := (HV4.out.2.2.cell_ 0).trans (by simp)
  have g4 := HV4.out.1.frozen_ 0
  have g5 := HV4.out.2.1.frozen_ 0
  have g6 := HV4.out.2.2.frozen_ 0
  go_wp2_with fail
  obtain ⟨U, hU⟩ : ∃ U, ((x4.setCell ⟨w.heap.size + 1, 0, none⟩ (.int .i64 0)).setCell ⟨w.heap.size + 1 + 1, 0, none⟩ (.int .i64 0)).setCell ⟨w.heap.size + 1 + 1 + 1, 0, none⟩ (.int .i64 z) = U := ⟨_, rfl⟩
  obtain ⟨hu, _, _, hb⟩ := fv_put0 HV4.out _ _ _ U hU
  have BU := hb w HB4.out
  (try rw [hU])
  clear hU p4 p5 p6 g4 g5 g6
  have u4 : U.cell? ⟨w.heap.size + 1, 0, none⟩ = some (.int .i64 0) := (hu.1.cell_ 0).trans (by simp)
  have u5 : U.cell? ⟨w.heap.size + 1 + 1, 0, none⟩ = some (.int .i64 0) := (hu.2.1.cell_ 0).trans (by simp)
  have u6 : U.cell? ⟨w.heap.size + 1 + 1 + 1, 0, none⟩ = some (.int .i64 z) := (hu.2.2.cell_ 0).trans (by simp)
  have v4 := hu.1.frozen_ 0
  have v5 := hu.2.1.frozen_ 0
  have v6 := hu.2.2.frozen_ 0
  refine bodyPost_ret (v := .tuple #[.int .i64 0, .int .i64 0, .int .i64 z]) (by simp [results, Try.results21, go_sem, u4, u5, u6]) rfl ?_
  exact ⟨rfl, BU⟩

set_option maxRecDepth 100000 in
set_option maxHeartbeats 4000000 in
theorem First_in (n : Nat) (hn : 6 ≤ n) (A1 A2 A3 : Option Addr) (c1 c2 c3 : Nat) (xs ys : List Int) (rs : List Bool) (T : Int) (w : World) (h : InMem w A1 A2 A3 xs ys rs) (hz : sndS xs ys rs (tgtB T) = 0) :
    CallsIn Fence.wide n Try.prog 21 #[.agg #[.slice A1 xs.length c1, .slice A2 ys.length c2, .slice A3 rs.length c3], .int .i64 T] w (FPost (firS T xs ys rs) w) := by
  have HE : Hid (firS T xs ys rs = fstP (full T xs ys rs []) 0) := by show _ = _; unfold firS; rw [hz, if_neg (by simp)]
  rw [HE.out]
  have HC := Lib.hid (snd_ok hz).1
  have HFL := Lib.hid (full_len (T := T) (mv := []) (snd_ok hz).1)
  have HM := Lib.hid h; have HZ := Lib.hid hz
  clear h hz
  obtain ⟨z, hz⟩ : ∃ z : Int, z = 0 := ⟨_, rfl⟩
  rw [← hz] at HZ
  have HZ0 := Lib.hid hz
  clear hz
  have h1 : 1 ≤ n := by omega
  obtain ⟨X, hX⟩ : ∃ X, (((w.alloc (.cells #[.slice A1 xs.length c1, .slice A2 ys.length c2, .slice A3 rs.length c3] 25)).alloc (.cells #[.int .i64 0] 3)).alloc (.cells #[.int .i64 0] 3)).alloc (.cells #[.int .i64 0] 29) = X := ⟨_, rfl⟩
  have k1 : Blk X w.heap.size 25 #[.slice A1 xs.length c1, .slice A2 ys.length c2, .slice A3 rs.length c3] := by rw [← hX]; exact (((Blk.new_ rfl rfl).alloc_ _).alloc_ _).alloc_ _
  have HFV : Hid (FV w.heap.size 0 0 0 X) := by
    show FV _ _ _ _ _
    rw [← hX]
    exact ⟨((Blk.new_ (by simp) rfl).alloc_ _).alloc_ _, (Blk.new_ (by simp) rfl).alloc_ _, Blk.new_ (by simp) rfl⟩
  have HBX : Hid (Below w.heap.size w X) := by show Below _ _ _; rw [← hX]; exact (((Below.refl _ _).alloc (Nat.le_refl _) _).alloc (by simp) _).alloc (by simp; omega) _ |>.alloc (by simp; omega) _
  refine callsIn_of_wp_marks Try.func21 rfl trivial ?_ rfl
  simp only [Try.ntmps21, List.size_toArray, List.length_cons, List.length_nil, Nat.reduceAdd, Nat.reduceSub, Array.replicate_succ, Array.replicate_zero, List.push_toArray, List.append_toArray, List.nil_append, List.cons_append]
  gi_wp2_with fail
  (try rw [hX])
  clear hX
  refine wpIn_region_chain2 (.inl rfl) (by omega) (by kernel_rfl) [1, 0, 1, 1, 0] [[], [], [], [], []] [.kn ?fan0, .is ?fan1, .kn (.bool (tgtB T)), .kn (.int .i64 z), .is ?fan4] (by rfl) (by rfl) (by kernel_rfl) (by kernel_rfl) (by kernel_rfl) (by kernel_rfl) (by kernel_rfl) (by kernel_rfl) (lts_kn (lts_is (lts_kn (lts_kn (lts_is lts_nil))))) (fun W0 hb0 hz0 => ?_)
  rotate_left 3
  rw [show lateIdx [1, 0, 1, 1, 0] = [] from by rfl]
  have hb1 := HBX.out.trans (hb0.mono HBX.out.size)
  have kW := k1.below_ hb0 k1.lt
  have zW := kW.lt
  have p0 : W0.cell? ⟨w.heap.size, 0, none⟩ = some (.slice A1 xs.length c1) := (kW.cell_ 0).trans (by simp)
  have p1 : W0.cell? ⟨w.heap.size, 1, none⟩ = some (.slice A2 ys.length c2) := (kW.cell_ 1).trans (by simp)
  have p2 : W0.cell? ⟨w.heap.size, 2, none⟩ = some (.slice A3 rs.length c3) := (kW.cell_ 2).trans (by simp)
  refine chn_kn (stp_take (by rfl) ?yan0) ?ran0
  case yan0 =>
    intro w hbw hd
    have r0 := cell_keep hbw p0 zW
    have r1 := cell_keep hbw p1 zW
    have r2 := cell_keep hbw p2 zW
    clear hd
    go_simp
    first | done | with_reducible rfl
  (try simp only [Act.put, List.setIfInBounds_toArray, List.set_cons_zero, List.set_cons_succ, List.nil_append, List.cons_append, Nat.reduceAdd])
  refine chn_is (stp_pure (by rfl) ?yan1) ?ran1
  case yan1 =>
    intro w
    go_simp
    first | done | with_reducible rfl
  (try simp only [Act.put, List.setIfInBounds_toArray, List.set_cons_zero, List.set_cons_succ, List.nil_append, List.cons_append, Nat.reduceAdd])
  refine chn_kn ?san2 ?ran2
  case san2 =>
    intro w hbw hd K Q' hK
    clear hd
    go_simp
    refine (isTarget_any T _).mono ?_
    rintro e y ⟨rfl, rfl⟩
    go_wp2_with fail
    refine hK.out (.bool (tgtB T)) _ _ ?_ ?_ rfl
    · (simp only [Act.put, List.setIfInBounds_toArray, List.set_cons_zero, List.set_cons_succ, List.nil_append, List.cons_append, Nat.reduceAdd])
    · exact (by repeat' (first | with_reducible exact Below.refl _ _ | with_reducible assumption | with_reducible apply Below.drew | with_reducible apply below_drewN | with_reducible apply Below.alloc | with_reducible apply Below.setCell | (with_reducible refine Below.trans ?_ (Below.mono (by assumption) ?_)) | (simp; done) | (simp; omega) | omega | with_reducible apply le_size_alloc | with_reducible apply le_size_drewN | with_reducible apply le_size_drew | with_reducible apply le_size_setCell | with_reducible refine Nat.le_trans ?_ (Below.size (by assumption))))
  (try simp only [Act.put, List.setIfInBounds_toArray, List.set_cons_zero, List.set_cons_succ, List.nil_append, List.cons_append, Nat.reduceAdd])
  refine chn_kn ?san3 ?ran3
  case san3 =>
    intro w hbw hd K Q' hK
    clear hd
    go_simp
    refine (sound_any A1 A2 A3 c1 c2 c3 xs ys rs (tgtB T) _ (HM.out.ext (hb1.trans (hbw.mono hb1.size)))).mono ?_
    rw [HZ.out]
    rintro e y ⟨rfl, hy⟩
    go_wp2_with fail
    refine hK.out (.int .i64 z) _ _ ?_ ?_ rfl
    · (simp only [Act.put, List.setIfInBounds_toArray, List.set_cons_zero, List.set_cons_succ, List.nil_append, List.cons_append, Nat.reduceAdd])
    · exact (by repeat' (first | with_reducible exact Below.refl _ _ | with_reducible assumption | with_reducible apply Below.drew | with_reducible apply below_drewN | with_reducible apply Below.alloc | with_reducible apply Below.setCell | (with_reducible refine Below.trans ?_ (Below.mono (by assumption) ?_)) | (simp; done) | (simp; omega) | omega | with_reducible apply le_size_alloc | with_reducible apply le_size_drewN | with_reducible apply le_size_drew | with_reducible apply le_size_setCell | with_reducible refine Nat.le_trans ?_ (Below.size (by assumption))))
  (try simp only [Act.put, List.setIfInBounds_toArray, List.set_cons_zero, List.set_cons_succ, List.nil_append, List.cons_append, Nat.reduceAdd])
  refine chn_is (stp_pure (by rfl) ?yan4) ?ran4
  case yan4 =>
    intro w
    go_simp
    first | done | with_reducible rfl
  (try simp only [Act.put, List.setIfInBounds_toArray, List.set_cons_zero, List.set_cons_succ, List.nil_append, List.cons_append, Nat.reduceAdd])
  refine chn_end (fun wz lo hi hbz hd hR => ?_)
  have HB4 := Lib.hid (hb1.trans (hbz.mono hb1.size))
  have K1 := Lib.hid (kW.below_ hbz zW)
  have HX4 := Lib.hid (hb0.trans (hbz.mono hb0.size))
  clear hd hR p0 p1 p2 zW kW hb1 k1 hb0 hbz hz0 HBX
  refine late_none ?_
  obtain ⟨x4, rfl⟩ : ∃ x4 : World, x4 = wz := ⟨_, rfl⟩
  have hz := HZ0.out
  subst hz
  have HV4 := Lib.hid (HFV.out.below HX4.out)
  have kl1 := K1.out.lt
  have q0 : x4.cell? ⟨w.heap.size, 0, none⟩ = some (.slice A1 xs.length c1) := (K1.out.cell_ 0).trans (by simp)
  have q1 : x4.cell? ⟨w.heap.size, 1, none⟩ = some (.slice A2 ys.length c2) := (K1.out.cell_ 1).trans (by simp)
  have q2 : x4.cell? ⟨w.heap.size, 2, none⟩ = some (.slice A3 rs.length c3) := (K1.out.cell_ 2).trans (by simp)
  gi_wp2_with fail
  obtain ⟨X, rfl⟩ : ∃ X : World, X = x4 := ⟨_, rfl⟩
  refine ⟨trivial, (callsIn_wide.2 (sweep_any A1 A2 A3 xs.length ys.length rs.length c1 c2 c3 T X)).mono ?_⟩
  rintro e W ⟨rfl, hW⟩
  have sW : W.heap.size = X.heap.size + 2 := by rw [hW]; simp
  have bW : Below X.heap.size X W := by rw [hW]; exact ((Below.refl _ _).alloc (Nat.le_refl _) _).alloc (by simp) _
  have kl : Blk W X.heap.size 25 #[.slice A1 xs.length c1, .slice A2 ys.length c2, .slice A3 rs.length c3] := by rw [hW]; exact (Blk.new_ rfl rfl).alloc_ _
  have kt : Blk W (X.heap.size + 1) 3 #[.int .i64 T] := by rw [hW]; exact Blk.new_ (by simp) rfl
  have BW := Lib.hid (HB4.out.trans (bW.mono HB4.out.size))
  have MW : InMem W A1 A2 A3 xs ys rs := HM.out.ext BW.out
  have VW := HV4.out.below bW
  have zx : w.heap.size + 4 ≤ X.heap.size := by have := HV4.out.2.2.lt; omega
  have HSW := Lib.hid sW
  clear hW bW sW q0 q1 q2
  gi_wp2_with fail
  have sW := HSW.out
  have nn : ∀ k (G : Nat → Prop) s, k < W.heap.size → ¬ ¬ (Theirs W.heap.size (fun _ => False) G k ∨ EvH s k) := fun k G s h1 hn => hn (.inl (.inr ⟨h1, fun h => h⟩))
  refine wpIn_rangeH rfl h1 (gf := 75) (lb := #[.pointer (some ⟨X.heap.size, 0, none⟩), .pointer (some ⟨X.heap.size + 1, 0, none⟩)]) rfl trivial (enters_of Try.func75 (by kernel_rfl) rfl)
    (sweep1_in Fence.wide (n - 1) trivial rfl (by omega) rfl X.heap.size (X.heap.size + 1) A1 A2 A3 c1 c2 c3 xs ys rs T (fun b => b = w.heap.size + 1 ∨ b = w.heap.size + 1 + 1 ∨ b = w.heap.size + 1 + 1 + 1) W MW HC.out kl kt (fun b hb => by omega))
    (fun _ => rfl) (fun b hb => hb.elim) (fun x V1 V2 hm hs ha => ⟨hm.1.aside ha (hm.2.1.sub fun k hk => by omega), hm.2⟩)
    (fun pre G V => FV w.heap.size 0 pre.length 0 V ∧ Below w.heap.size w V ∧ ∀ x ∈ pre, x.what ≠ 3)
    (fun c pre G V => c = .ret ∧ ∃ pre' x, pre = pre' ++ [x] ∧ x.what = 3 ∧ (∀ y ∈ pre', y.what ≠ 3) ∧ FV w.heap.size x.f pre'.length 0 V ∧ Below w.heap.size w V)
    (fun pre G V1 V2 ⟨h1, h2, h3⟩ hs ha => ⟨h1.aside ha (nn _ G pre (by omega)) (nn _ G pre (by omega)) (nn _ G pre (by omega)), h2.trans (ha.below (by omega) (fun k hk => nn k G pre (by omega))), h3⟩)
    (fun c pre G V1 V2 ⟨hc, pre', x, h0, h1, h2, h3, h4⟩ hs ha => ⟨hc, pre', x, h0, h1, h2, h3.aside ha (nn _ G pre (by omega)) (nn _ G pre (by omega)) (nn _ G pre (by omega)), h4.trans (ha.below (by omega) (fun k hk => nn k G pre (by omega)))⟩)
    (fun _ _ _ _ h _ => h) (fun _ _ _ _ _ h _ => h)
    evH_nil evH_snoc (fun x V b hm hb => by have := EV.mem_lo hm hb; omega)
    ⟨VW, BW.out, fun x hx => by cases hx⟩
    (fun x a' V => ∃ B8, W.heap.size + 2 ≤ B8 ∧ Blk V B8 82 #[.int .i64 x.what, .int .i64 x.f, .slice x.A1 x.xs.length x.c1, .slice x.A2 x.ys.length x.c2, .slice x.A3 x.rs.length x.c3, .int .i64 T, .int .i64 x.f, .int .u64 (wrd 0 x.mv), .int .u64 (wrd 1 x.mv), .int .u64 (wrd 2 x.mv), .int .u64 (wrd 3 x.mv)] ∧ a' = { tmps := #[.agg #[.slice A1 xs.length c1, .slice A2 ys.length c2, .slice A3 rs.length c3], .int .i64 T, .pointer (some ⟨w.heap.size, 0, none⟩), undef, .pointer (some ⟨w.heap.size + 1, 0, none⟩), .pointer (some ⟨w.heap.size + 1 + 1, 0, none⟩), .pointer (some ⟨w.heap.size + 1 + 1 + 1, 0, none⟩), .int .i64 0, .pointer (some ⟨B8, 0, none⟩), .agg #[.slice A1 xs.length c1, .slice A2 ys.length c2, .slice A3 rs.length c3], .int .i64 T, .bool (tgtB T), .int .i64 0, .int .i64 0, .bool false, undef, .agg #[.slice A1 xs.length c1, .slice A2 ys.length c2, .slice A3 rs.length c3], .int .i64 T, .func (.func 75) #[] #[.pointer (some ⟨X.heap.size, 0, none⟩), .pointer (some ⟨X.heap.size + 1, 0, none⟩)], .agg #[.int .i64 x.what, .int .i64 x.f, .slice x.A1 x.xs.length x.c1, .slice x.A2 x.ys.length x.c2, .slice x.A3 x.rs.length x.c3, .int .i64 T, .int .i64 x.f, .int .u64 (wrd 0 x.mv), .int .u64 (wrd 1 x.mv), .int .u64 (wrd 2 x.mv), .int .u64 (wrd 3 x.mv)], undef, undef, undef, undef, undef, undef, undef, undef], defers := [] })
    (fun x a' V1 V2 ⟨B8, h1, h2, h3⟩ hs ha => ⟨B8, h1, ha.blk h2 (by omega), h3⟩)
    (fun x V1 V2 hm hb => ⟨hm.1.ext hb, hm.2⟩) ?assign ?body ?done ?stop
  case assign =>
    intro lp x V K hV hK
    clear sW
    simp only [EV.enc]
    gi_wp2
    exact hK _ _ ⟨V.heap.size, hV, Blk.new_ rfl rfl, rfl⟩ ((Below.refl _ _).alloc (Nat.le_refl _) _)
  case body =>
    rintro lp pre x G V a' ⟨hv, hb, hp⟩ hm ⟨B8, hB8, k8, rfl⟩ hlen hsz hG _
    have e0 : V.cell? ⟨B8, 0, none⟩ = some (.int .i64 x.what) := (k8.cell_ 0).trans (by simp)
    have e1 : V.cell? ⟨B8, 1, none⟩ = some (.int .i64 x.f) := (k8.cell_ 1).trans (by simp)
    have hpl : (pre.length : Int) ≤ 2000 := by have := HFL.out; omega
    have nb8 : B8 ≠ w.heap.size + 1 := by omega
    have nb9 : B8 ≠ w.heap.size + 1 + 1 := by omega
    have nb10 : B8 ≠ w.heap.size + 1 + 1 + 1 := by omega
    have p4 : V.cell? ⟨w.heap.size + 1, 0, none⟩ = some (.int .i64 0) := (hv.1.cell_ 0).trans (by simp)
    have p5 : V.cell? ⟨w.heap.size + 1 + 1, 0, none⟩ = some (.int .i64 pre.length) := (hv.2.1.cell_ 0).trans (by simp)
    have p6 : V.cell? ⟨w.heap.size + 1 + 1 + 1, 0, none⟩ = some (.int .i64 0) := (hv.2.2.cell_ 0).trans (by simp)
    have g4 := hv.1.frozen_ 0
    have g5 := hv.2.1.frozen_ 0
    have g6 := hv.2.2.frozen_ 0
    have HV := Lib.hid hv; have HB := Lib.hid hb; have HP := Lib.hid hp
    clear hv hb hp k8 hm sW hG
    by_cases h3 : x.what = 3
    · have h3b : (x.what == 3) = true := by simpa using h3
      have HH3 := Lib.hid h3
      clear h3
      gi_wp2
      refine wpIn_region_held_drew (.inr ⟨lp, rfl⟩) (by omega) (by kernel_rfl) (by rintro ⟨_, _, hh⟩; exact hh) (S := (fun U => U.cell? ⟨B8, 1, none⟩ = some (.int .i64 x.f) ∧ U.cell? ⟨w.heap.size + 1 + 1, 0, none⟩ = some (.int .i64 pre.length))) (by kernel_rfl) ?_ (fun hHeld => ?_)
      · (exact ⟨e1, p5⟩)
      refine wpAnyH_take (i := 0) (oi := ?orn1) (v := ?vrn1) ?hrn1 (by kernel_rfl) (by kernel_rfl) (by kernel_rfl) ?qrn1 ?yrn1 (by assumption) ?rrn1
      case hrn1 => (simp only [List.getElem?_toArray, List.getElem?_cons_succ, List.getElem?_cons_zero]; rfl)
      case qrn1 => exact fun _ _ _ h => h
      case yrn1 => (refine Or.inl ⟨by rfl, ?_⟩; intro w hSw; (try dsimp only at hSw); go_simp; first | done | with_reducible rfl)
      (try simp only [Act.put, List.setIfInBounds_toArray, List.set_cons_zero, List.set_cons_succ])
      refine wpAnyH_take (i := 1) (oi := ?orn2) (v := ?vrn2) ?hrn2 (by kernel_rfl) (by kernel_rfl) (by kernel_rfl) ?qrn2 ?yrn2 (by assumption) ?rrn2
      case hrn2 => (simp only [List.getElem?_toArray, List.getElem?_cons_succ, List.getElem?_cons_zero]; rfl)
      case qrn2 => exact fun _ _ _ h => h
      case yrn2 => (refine Or.inl ⟨by rfl, ?_⟩; intro w hSw; (try dsimp only at hSw); go_simp; first | done | with_reducible rfl)
      (try simp only [Act.put, List.setIfInBounds_toArray, List.set_cons_zero, List.set_cons_succ])
      refine wpAnyH_take (i := 2) (oi := ?orn3) (v := ?vrn3) ?hrn3 (by kernel_rfl) (by kernel_rfl) (by kernel_rfl) ?qrn3 ?yrn3 (by assumption) ?rrn3
      case hrn3 => (simp only [List.getElem?_toArray, List.getElem?_cons_succ, List.getElem?_cons_zero]; rfl)
      case qrn3 => exact fun _ _ _ h => h
      case yrn3 => (refine Or.inl ⟨by rfl, ?_⟩; intro w hSw; (try dsimp only at hSw); go_simp; first | done | with_reducible rfl)
      (try simp only [Act.put, List.setIfInBounds_toArray, List.set_cons_zero, List.set_cons_succ])
      refine wpAnyH_ready (rs := [3]) (by kernel_rfl) (by simp) ?_
      refine AllReadyH.cons (o := ?orn4) ?hrn4 (fun K hK => ?srn4) AllReadyH.nil
      case hrn4 => (simp only [List.getElem?_toArray, List.getElem?_cons_succ, List.getElem?_cons_zero]; rfl)
      go_simp
      refine hK.out _ _ ?_ (fun hHeld => ?_)
      · (simp [go_sem, e1, p4, p5, p6, nb8, nb9, nb10])
      clear hK K
      (try simp only [Act.put, List.setIfInBounds_toArray, List.set_cons_zero, List.set_cons_succ])
      refine wpAnyH_ready (rs := [4]) (by kernel_rfl) (by simp) ?_
      refine AllReadyH.cons (o := ?orn5) ?hrn5 (fun K hK => ?srn5) AllReadyH.nil
      case hrn5 => (simp only [List.getElem?_toArray, List.getElem?_cons_succ, List.getElem?_cons_zero]; rfl)
      go_simp
      refine hK.out _ _ ?_ (fun hHeld => ?_)
      · (simp [go_sem, e1, p4, p5, p6, nb8, nb9, nb10])
      clear hK K
      (try simp only [Act.put, List.setIfInBounds_toArray, List.set_cons_zero, List.set_cons_succ])
      refine wpAnyH_ready (rs := [5]) (by kernel_rfl) (by simp) ?_
      refine AllReadyH.cons (o := ?orn6) ?hrn6 (fun K hK => ?srn6) AllReadyH.nil
      case hrn6 => (simp only [List.getElem?_toArray, List.getElem?_cons_succ, List.getElem?_cons_zero]; rfl)
      go_simp
      refine hK.out _ _ ?_ (fun hHeld => ?_)
      · (simp [go_sem, e1, p4, p5, p6, nb8, nb9, nb10])
      clear hK K
      (try simp only [Act.put, List.setIfInBounds_toArray, List.set_cons_zero, List.set_cons_succ])
      refine wpAnyH_done (by kernel_rfl) ?_ _
      obtain ⟨U, hU⟩ : ∃ U, (((V.setCell ⟨w.heap.size + 1, 0, none⟩ (.int .i64 x.f)).setCell ⟨w.heap.size + 1 + 1, 0, none⟩ (.int .i64 pre.length)).setCell ⟨w.heap.size + 1 + 1 + 1, 0, none⟩ (.int .i64 0)).drew = U := ⟨_, rfl⟩
      have HU := Lib.hid (fv_put HV.out _ _ _ U hU)
      (try rw [hU])
      clear hU
      gi_wp2
      exact ⟨HU.out.2.1.from _, HU.out.2.2.1, rfl, pre, x, rfl, HH3.out, HP.out, HU.out.1, HU.out.2.2.2 _ HB.out⟩
    · have h3b : (x.what == 3) = false := by simpa using h3
      have HH3 := Lib.hid h3
      clear h3
      gi_wp2
      refine ⟨(KeepsOthers.setCell V _ _).from _, (Aside.refl _ V).setCell (p := ⟨w.heap.size + 1 + 1, 0, none⟩) (.inr (.inr (.inr (.inl rfl)))) _, ⟨?_, ?_, ?_⟩, HB.out.setCell (p := ⟨w.heap.size + 1 + 1, 0, none⟩) (show w.heap.size ≤ w.heap.size + 1 + 1 by omega) _, ?_⟩
      · exact HV.out.1.far_ (p := ⟨w.heap.size + 1 + 1, 0, none⟩) (by show w.heap.size + 1 ≠ w.heap.size + 1 + 1; omega) _
      · simpa using HV.out.2.1.set_ 0 (.int .i64 ((pre.length : Int) + 1))
      · exact HV.out.2.2.far_ (p := ⟨w.heap.size + 1 + 1, 0, none⟩) (by show w.heap.size + 1 + 1 + 1 ≠ w.heap.size + 1 + 1; omega) _
      · intro y hy
        rcases List.mem_append.1 hy with hy | hy
        · exact HP.out y hy
        · obtain rfl : y = x := by simpa using hy
          exact HH3.out
  case done =>
    rintro es G V hS ⟨hv, hb, hp⟩ hsz hK
    have HR : Hid (fstP (full T xs ys rs []) 0 = (0, 0, 6)) := by
      show _ = _
      rw [← hS]
      refine fstP_none _ _ fun e he => ?_
      obtain ⟨y, hy, rfl⟩ := List.mem_map.1 he
      exact hp y hy
    have p4 : V.cell? ⟨w.heap.size + 1, 0, none⟩ = some (.int .i64 0) := (hv.1.cell_ 0).trans (by simp)
    have p5 : V.cell? ⟨w.heap.size + 1 + 1, 0, none⟩ = some (.int .i64 es.length) := (hv.2.1.cell_ 0).trans (by simp)
    have p6 : V.cell? ⟨w.heap.size + 1 + 1 + 1, 0, none⟩ = some (.int .i64 0) := (hv.2.2.cell_ 0).trans (by simp)
    have g4 := hv.1.frozen_ 0
    have g5 := hv.2.1.frozen_ 0
    have g6 := hv.2.2.frozen_ 0
    have HV := Lib.hid hv; have HB := Lib.hid hb; have HK := Lib.hid hK
    clear hv hb hp hK sW hS
    gi_wp2
    obtain ⟨U, hU⟩ : ∃ U, ((V.setCell ⟨w.heap.size + 1, 0, none⟩ (.int .i64 0)).setCell ⟨w.heap.size + 1 + 1, 0, none⟩ (.int .i64 0)).setCell ⟨w.heap.size + 1 + 1 + 1, 0, none⟩ (.int .i64 6) = U := ⟨_, rfl⟩
    have hU2 := hU
    obtain ⟨hu, _, _, hb⟩ := fv_put0 HV.out _ _ _ U hU
    have sW := HSW.out
    have hKU : U.heap[W.heap.size]? = some (.deferred (some [])) := by
      rw [← hU2, Below.heap_setCell _ _ _ _ (by show W.heap.size ≠ w.heap.size + 1 + 1 + 1; omega), Below.heap_setCell _ _ _ _ (by show W.heap.size ≠ w.heap.size + 1 + 1; omega), Below.heap_setCell _ _ _ _ (by show W.heap.size ≠ w.heap.size + 1; omega)]
      exact HK.out
    (try rw [hU])
    show LeavesInM _ _ _ _ _ _ _ _ _
    refine first_end (R := fstP (full T xs ys rs []) 0) hu (hb w HB.out) (by omega) hKU HR.out ?_ ?_ ?_
    · rfl
    · rfl
    · rfl
  case stop =>
    rintro c pre G V hSp ⟨rfl, pre', x, rfl, hx, hp, hv, hb⟩ hsz hK
    have HR : Hid (fstP (full T xs ys rs []) 0 = (x.f, (pre'.length : Int), 0)) := by
      show _ = _
      rw [List.map_append] at hSp
      have := fstP_hit _ (pre'.map EV.pl) x.pl 0 hSp (fun e he => by obtain ⟨y, hy, rfl⟩ := List.mem_map.1 he; exact hp y hy) hx
      rw [this]
      simp [EV.pl]
    have sW := HSW.out
    have HSW' := Lib.hid (show w.heap.size + 4 ≤ W.heap.size by omega)
    clear sW hSp hp hx
    gi_wp2
    show LeavesInM _ _ _ _ _ _ _ _ _
    exact first_end (R := fstP (full T xs ys rs []) 0) hv hb HSW'.out hK HR.out rfl rfl rfl

theorem First_any (A1 A2 A3 : Option Addr) (c1 c2 c3 : Nat) (xs ys : List Int) (rs : List Bool) (T : Int) (w : World) (h : InMem w A1 A2 A3 xs ys rs) :
    Calls Try.prog 21 #[.agg #[.slice A1 xs.length c1, .slice A2 ys.length c2, .slice A3 rs.length c3], .int .i64 T] w (FPost (firS T xs ys rs) w) := by
  by_cases h0 : sndS xs ys rs (tgtB T) = 0
  · exact callsIn_wide.1 (First_in 6 (Nat.le_refl _) A1 A2 A3 c1 c2 c3 xs ys rs T w h h0)
  · exact First_bad A1 A2 A3 c1 c2 c3 xs ys rs T w h rfl h0
end Go.Proofs.Ytiobbdfkimpfbaa
