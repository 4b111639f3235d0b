/- The queue of readin.Shortest: a slice of ways (three ints and a slice each), appended to at any place of its row. -/
import Derived.Test.YtngenoblifhnpaaDoorRi9
import Derived.ArgAppend
namespace Go.Proofs.YtngenoblifhnpaaDoor
open Go.RowKit Go.Maps

theorem wayInfo : (Tryd.prog.info? 59).map (fun i => (i.zero, i.size, i.bytes)) = some (some (.agg #[.int .i64 0, .int .i64 0, .int .i64 0, .slice none 0 0]), 4, 48) := by kernel_rfl
/-- The slice value '.slice A p.length c' holds the ints p, and lies not in the row b. -/
def AW (w : World) (b : Nat) (A : Option Addr) (c : Nat) (p : List Int) : Prop := IW w A c p ∧ (0 < p.length → ∃ g o, A = some ⟨g, o, none⟩ ∧ g ≠ b)
theorem AW.nil {w : World} {b : Nat} {A : Option Addr} {c : Nat} : AW w b A c [] := ⟨IW.nil, fun h => absurd h (by simp)⟩
theorem AW.ext {w w' : World} {b : Nat} {A : Option Addr} {c : Nat} {p : List Int} (h : AW w b A c p) (hb : Below w.heap.size w w') : AW w' b A c p := ⟨h.1.ext hb, h.2⟩
theorem AW.keep {w w' : World} {b b' : Nat} {A : Option Addr} {c : Nat} {p : List Int} (h : AW w b A c p) (hk : w.grownBy w' (some b)) (hb' : b' = b ∨ w.heap.size ≤ b') : AW w' b' A c p := by
  refine ⟨⟨fun hp => ?_, h.1.2⟩, fun hp => ?_⟩
  · obtain ⟨g, o, rfl, hg⟩ := h.2 hp
    obtain ⟨g', o', e, hlt, hc⟩ := h.1.1 hp
    injection e with e; injection e with e1 e2
    subst e1 e2
    refine ⟨g, o, rfl, Nat.lt_of_lt_of_le hlt hk.size, fun j x hx => ?_⟩
    exact (World.cell?_of_block (w := w) (hk.block g hlt (fun e => hg (by injection e)))).trans (hc j x hx)
  · obtain ⟨g, o, rfl, hg⟩ := h.2 hp
    obtain ⟨g', o', e, hlt, hc⟩ := h.1.1 hp
    injection e with e; injection e with e1 e2
    subst e1 e2
    exact ⟨g, o, rfl, by omega⟩
theorem Blk.keep_ {w w' : World} {b g : Nat} {t : TypeId} {cs : Array Value} (h : Blk w g t cs) (hk : w.grownBy w' (some b)) (hg : g ≠ b) : Blk w' g t cs := (hk.block g h.lt (fun e => hg (by injection e))).trans h
theorem IWn.aw {w : World} {base b : Nat} {A : Option Addr} {c : Nat} {xs : List Int} (h : IWn w base A c xs) (hb : b < base) : AW w b A c xs := ⟨h.1, fun hp => by obtain ⟨g, o, e, hg⟩ := h.2 hp; exact ⟨g, o, e, by omega⟩⟩

/-- The queue: the slice at offset off of the row b, of capacity c, holds the ways q. -/
def QS (w : World) (b off c : Nat) (q : List (RI × List Int)) : Prop :=
  ∃ cur, Blk w b 59 cur ∧ off + c * 4 ≤ cur.size ∧ q.length ≤ c ∧ ∀ (j : Nat) (r : RI) (p : List Int), q[j]? = some (r, p) →
    ∃ A d, cur[off + j * 4]? = some (.int .i64 r.1) ∧ cur[off + j * 4 + 1]? = some (.int .i64 r.2.1) ∧ cur[off + j * 4 + 2]? = some (.int .i64 r.2.2) ∧ cur[off + j * 4 + 3]? = some (.slice A p.length d) ∧ AW w b A d p
theorem QS.lt {w : World} {b off c : Nat} {q : List (RI × List Int)} (h : QS w b off c q) : b < w.heap.size := by
  obtain ⟨cur, hk, _⟩ := h
  exact hk.lt
theorem QS.cap {w : World} {b off c : Nat} {q : List (RI × List Int)} (h : QS w b off c q) : q.length ≤ c := by
  obtain ⟨cur, hk, _, hl, _⟩ := h
  exact hl
theorem QS.ext {w w' : World} {b off c : Nat} {q : List (RI × List Int)} (h : QS w b off c q) (hb : Below w.heap.size w w') : QS w' b off c q := by
  obtain ⟨cur, hk, hc, hl, hq⟩ := h
  refine ⟨cur, hk.below_ hb hk.lt, hc, hl, fun j r p e => ?_⟩
  obtain ⟨A, d, h0, h1, h2, h3, h4⟩ := hq j r p e
  exact ⟨A, d, h0, h1, h2, h3, h4.ext hb⟩
theorem QS.head {w : World} {b off c : Nat} {r : RI} {p : List Int} {t : List (RI × List Int)} (h : QS w b off c ((r, p) :: t)) :
    ∃ A d, w.cell? ⟨b, off, none⟩ = some (.int .i64 r.1) ∧ w.cell? ⟨b, off + 1, none⟩ = some (.int .i64 r.2.1) ∧ w.cell? ⟨b, off + 2, none⟩ = some (.int .i64 r.2.2) ∧ w.cell? ⟨b, off + 3, none⟩ = some (.slice A p.length d) ∧ AW w b A d p := by
  obtain ⟨cur, hk, hc, hl, hq⟩ := h
  obtain ⟨A, d, h0, h1, h2, h3, h4⟩ := hq 0 r p rfl
  simp only [Nat.zero_mul, Nat.add_zero] at h0 h1 h2 h3
  exact ⟨A, d, (hk.cell_ _).trans h0, (hk.cell_ _).trans h1, (hk.cell_ _).trans h2, (hk.cell_ _).trans h3, h4⟩
theorem QS.tail {w : World} {b off c : Nat} {r : RI} {p : List Int} {t : List (RI × List Int)} (h : QS w b off c ((r, p) :: t)) : QS w b (if c = 1 then off else off + 4) (c - 1) t := by
  obtain ⟨cur, hk, hc, hl, hq⟩ := h
  simp only [List.length_cons] at hl
  refine ⟨cur, hk, by split <;> omega, by omega, fun j r' p' e => ?_⟩
  have hj := (List.getElem?_eq_some_iff.1 e).1
  obtain ⟨A, d, h0, h1, h2, h3, h4⟩ := hq (j + 1) r' p' (by simpa using e)
  rw [if_neg (by omega)]
  rw [show off + (j + 1) * 4 = off + 4 + j * 4 by omega] at h0 h1 h2 h3
  exact ⟨A, d, h0, h1, h2, h3, h4⟩

/-- The cells of a way. -/
def wayC (r : RI) (v : Value) : List Value := [.int .i64 r.1, .int .i64 r.2.1, .int .i64 r.2.2, v]

theorem keep_set {w w' : World} {b : Nat} (h : w.grownBy w' (some b)) (o : Nat) (v : Value) : w.grownBy (w'.setCell ⟨b, o, none⟩ v) (some b) :=
  ⟨h.os, h.tape, h.output, by have := h.size; simpa [World.setCell] using this, fun k hk hn => (Below.heap_setCell w' ⟨b, o, none⟩ v k (fun e => hn (by rw [e]))).trans (h.block k hk hn)⟩
theorem keep_refl (w : World) (b : Nat) : w.grownBy w (some b) := ⟨rfl, rfl, rfl, Nat.le_refl _, fun _ _ _ => rfl⟩

theorem run_appQ (ty : TypeId) (w : World) (b off c : Nat) (q : List (RI × List Int)) (h : QS w b off c q) (g d : Nat) (r : RI) (A : Option Addr) (dp : Nat) (p : List Int) (hg : Blk w g 59 (wayC r (.slice A p.length dp)).toArray) (hp : AW w b A dp p) (hl : q.length ≤ 10000) :
    ∃ b' off' c' w', (Builtin.append_ #[60, 60] ty #[.slice (some ⟨b, off, none⟩) q.length c, .slice (some ⟨g, 0, none⟩) 1 d]).run Tryd.prog w = .ok (.slice (some ⟨b', off', none⟩) (q.length + 1) c') w' ∧ QS w' b' off' c' (q ++ [(r, p)]) ∧ w.grownBy w' (some b) ∧ (b' = b ∨ w.heap.size ≤ b') := by
  obtain ⟨i0, hi, hz0, hz1, hz2⟩ := info_parts wayInfo
  have hnews : ∀ (j : Nat) u, (wayC r (.slice A p.length dp))[j]? = some u → w.cell? ((⟨g, 0, none⟩ : Addr).add j) = some u := fun j u hu => by
    rw [show ((⟨g, 0, none⟩ : Addr).add j) = ⟨g, j, none⟩ by cases j <;> simp [Addr.add], hg.cell_]
    simpa using hu
  obtain ⟨cur, hk, hc, hlen, hq⟩ := h
  by_cases hroom : q.length + 1 ≤ c
  · have hr := run_append_room_cells (P := Tryd.prog) w 60 ty 59 i0 Tryd.underlying60 hi b off q.length c ⟨g, 0, none⟩ 1 d (wayC r (.slice A p.length dp)) (by rw [hz1]; rfl) hnews (by simp [wayC, Value.oneCell']) hroom
      (fun j hj => by rw [hk.cell_, hz1]; simp [wayC] at hj; rw [Array.getElem?_eq_getElem (by omega)]; rfl) (fun j hj => hk.frozen_ _)
    rw [hz1] at hr
    have hkeep : w.grownBy (w.setCells b (off + q.length * 4) (wayC r (.slice A p.length dp))) (some b) := keep_set (keep_set (keep_set (keep_set (keep_refl w b) _ _) _ _) _ _) _ _
    have hblk := (((hk.set_ (off + q.length * 4) (.int .i64 r.1)).set_ (off + q.length * 4 + 1) (.int .i64 r.2.1)).set_ (off + q.length * 4 + 1 + 1) (.int .i64 r.2.2)).set_ (off + q.length * 4 + 1 + 1 + 1) (.slice A p.length dp)
    refine ⟨b, off, c, _, hr, ⟨_, hblk, by simpa using hc, by simpa using hroom, fun j r' p' e => ?_⟩, hkeep, .inl rfl⟩
    by_cases hj : j < q.length
    · rw [List.getElem?_append_left hj] at e
      obtain ⟨A', d', h0, h1, h2, h3, h4⟩ := hq j r' p' e
      refine ⟨A', d', ?_, ?_, ?_, ?_, h4.keep hkeep (.inl rfl)⟩
      · rw [Array.getElem?_setIfInBounds_ne (by omega), Array.getElem?_setIfInBounds_ne (by omega), Array.getElem?_setIfInBounds_ne (by omega), Array.getElem?_setIfInBounds_ne (by omega)]; exact h0
      · rw [Array.getElem?_setIfInBounds_ne (by omega), Array.getElem?_setIfInBounds_ne (by omega), Array.getElem?_setIfInBounds_ne (by omega), Array.getElem?_setIfInBounds_ne (by omega)]; exact h1
      · rw [Array.getElem?_setIfInBounds_ne (by omega), Array.getElem?_setIfInBounds_ne (by omega), Array.getElem?_setIfInBounds_ne (by omega), Array.getElem?_setIfInBounds_ne (by omega)]; exact h2
      · rw [Array.getElem?_setIfInBounds_ne (by omega), Array.getElem?_setIfInBounds_ne (by omega), Array.getElem?_setIfInBounds_ne (by omega), Array.getElem?_setIfInBounds_ne (by omega)]; exact h3
    · rw [List.getElem?_append_right (by omega)] at e
      have hj0 : j = q.length := by
        have := (List.getElem?_eq_some_iff.1 e).1
        simp at this
        omega
      subst hj0
      simp at e
      obtain ⟨rfl, rfl⟩ := e
      refine ⟨A, dp, ?_, ?_, ?_, ?_, hp.keep hkeep (.inl rfl)⟩
      · rw [Array.getElem?_setIfInBounds_ne (by omega), Array.getElem?_setIfInBounds_ne (by omega), Array.getElem?_setIfInBounds_ne (by omega), Array.getElem?_setIfInBounds_self_of_lt (by omega)]
      · rw [Array.getElem?_setIfInBounds_ne (by omega), Array.getElem?_setIfInBounds_ne (by omega), Array.getElem?_setIfInBounds_self_of_lt (by simp; omega)]
      · rw [Array.getElem?_setIfInBounds_ne (by omega), Array.getElem?_setIfInBounds_self_of_lt (by simp; omega)]
      · rw [Array.getElem?_setIfInBounds_self_of_lt (by simp; omega)]
  · have hol : ((cur.toList.drop off).take (q.length * 4)).length = q.length * 4 := by simp; omega
    have hold : ∀ (j : Nat) u, ((cur.toList.drop off).take (q.length * 4))[j]? = some u → w.cell? ((⟨b, off, none⟩ : Addr).add j) = some u := fun j u hu => by
      have hj : j < q.length * 4 := by have := (List.getElem?_eq_some_iff.1 hu).1; omega
      rw [List.getElem?_take_of_lt hj, List.getElem?_drop] at hu
      rw [show ((⟨b, off, none⟩ : Addr).add j) = ⟨b, off + j, none⟩ by cases j <;> simp [Addr.add], hk.cell_]
      simpa using hu
    obtain ⟨v', w', hr, ⟨_, ho⟩, hgb⟩ := run_append_arg_grows (P := Tryd.prog) w 60 ty 59 i0 _ 4 48 Tryd.underlying60 hi hz0 hz1 hz2 rfl (by omega) ⟨b, off, none⟩ q.length c _ hol hold ⟨g, 0, none⟩ 1 d (wayC r (.slice A p.length dp)) rfl hnews (by omega) (by unfold maxLen; omega) (by omega)
    rcases ho with ⟨_, h0⟩ | ⟨g', cap, cur', rfl, hg', hblk, hcap, _, hsz, htk⟩
    · omega
    have hkeep : w.grownBy w' (some b) := ⟨hgb.os, hgb.tape, hgb.output, hgb.size, fun k hk _ => hgb.block k hk (by simp)⟩
    have hread : ∀ (j : Nat), j < (q.length + 1) * 4 → cur'[j]? = ((cur.toList.drop off).take (q.length * 4) ++ wayC r (.slice A p.length dp))[j]? := fun j hj => by
      rw [← htk, List.getElem?_take_of_lt hj]
      simp
    refine ⟨g', 0, cap, w', hr, ⟨cur', hblk, by omega, by simpa using hcap, fun j r' p' e => ?_⟩, hkeep, .inr hg'⟩
    by_cases hj : j < q.length
    · rw [List.getElem?_append_left hj] at e
      obtain ⟨A', d', h0, h1, h2, h3, h4⟩ := hq j r' p' e
      have hrd : ∀ i, i < 4 → cur'[0 + j * 4 + i]? = cur[off + j * 4 + i]? := fun i hi4 => by
        rw [hread _ (by omega), List.getElem?_append_left (by rw [hol]; omega), List.getElem?_take_of_lt (by omega), List.getElem?_drop]
        rw [show off + (0 + j * 4 + i) = off + j * 4 + i by omega]
        simp
      exact ⟨A', d', (hrd 0 (by omega)).trans h0, (hrd 1 (by omega)).trans h1, (hrd 2 (by omega)).trans h2, (hrd 3 (by omega)).trans h3, h4.keep hkeep (.inr hg')⟩
    · rw [List.getElem?_append_right (by omega)] at e
      have hj0 : j = q.length := by
        have := (List.getElem?_eq_some_iff.1 e).1
        simp at this
        omega
      subst hj0
      simp at e
      obtain ⟨rfl, rfl⟩ := e
      have hrd : ∀ i, i < 4 → cur'[0 + q.length * 4 + i]? = (wayC r (.slice A p.length dp))[i]? := fun i hi4 => by
        rw [hread _ (by omega), List.getElem?_append_right (by rw [hol]; omega), hol, show 0 + q.length * 4 + i - q.length * 4 = i by omega]
      exact ⟨A, dp, (hrd 0 (by omega)).trans rfl, (hrd 1 (by omega)).trans rfl, (hrd 2 (by omega)).trans rfl, (hrd 3 (by omega)).trans rfl, hp.keep hkeep (.inr hg')⟩

theorem wpList_appQ {ops : Array Oper} {rest : List Oper} {o : Oper} {a : Act} {Q : Exit → Act → World → Prop} (hgd : o.guard = none) (s x : Operand)
    (ho : o.op = .call { callee := .builtin .append, args := #[s, x], argTypes := #[60, 60] })
    (w : World) (b off c n : Nat) (q : List (RI × List Int)) (hn : n = q.length) (h : QS w b off c q) (g d : Nat) (r : RI) (A : Option Addr) (dp : Nat) (p : List Int) (hg : Blk w g 59 (wayC r (.slice A p.length dp)).toArray) (hp : AW w b A dp p) (hl : q.length ≤ 10000)
    (hs : a.eval s = .slice (some ⟨b, off, none⟩) n c) (hx : a.eval x = .slice (some ⟨g, 0, none⟩) 1 d)
    (hK : ∀ b' off' c' w', QS w' b' off' c' (q ++ [(r, p)]) → w.grownBy w' (some b) → (b' = b ∨ w.heap.size ≤ b') → wpList Tryd.prog ops Q rest (a.put o.dst (.slice (some ⟨b', off', none⟩) (q.length + 1) c')) w') : wpList Tryd.prog ops Q (o :: rest) a w := by
  subst hn
  refine wpList_plain hgd fun K' hK' => ?_
  obtain ⟨b', off', c', w', hrun, h2, h3, h4⟩ := run_appQ o.type w b off c q h g d r A dp p hg hp hl
  unfold Oper.wp execOp
  simp only [ho, resolve, invoke, builtin, Sem.run_bind, Sem.run_pure, Result.andThen_ok, List.map_toArray, List.map_cons, List.map_nil, hs, hx, hrun]
  exact hK' _ _ (hK b' off' c' w' h2 h3 h4)

theorem size_way (w : World) : (sizeOf 59).run Tryd.prog w = .ok 4 w := by
  obtain ⟨i0, hi, hz0, hz1, hz2⟩ := info_parts wayInfo
  simp [sizeOf, typeInfo, hi, hz1]
/-- queue[1:] -/
theorem run_sufQ (b off c n : Nat) (hn : 1 ≤ n) (W : World) :
    (Instr.slice 60 (.slice (some ⟨b, off, none⟩) n c) (some (.int .i64 1)) none none).run Tryd.prog W = .ok (.slice (some ⟨b, if c = 1 then off else off + 4, none⟩) (n - 1) (c - 1)) W := by
  have hs := size_way W
  have h1 : (1 : Int) ≤ n := by omega
  simp [Instr.slice, run_underlying Tryd.underlying60, Instr.sliceBounds, Instr.sliceBound, h1, hs, asIntOf]
  by_cases e : c = 1
  · simp [e]
  · simp [e, Addr.add]
end Go.Proofs.YtngenoblifhnpaaDoor
