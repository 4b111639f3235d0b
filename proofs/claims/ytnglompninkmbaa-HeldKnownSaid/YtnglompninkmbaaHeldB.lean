/- Contracts of held.Add, Remove and of the kit's OwnWrites. -/
import Derived.Test.YtnglompninkmbaaHeldW
import Derived.Deep.RegionHeld3
import Derived.Deep.DeepCutAuto
namespace Go.Proofs.Ytnglompninkmbaa
open Go.RowKit Go.Maps

theorem step_appW {ops : Array Oper} {o : Oper} {a : Act} {K : Act → World → Prop} {Q : Exit → Act → World → Prop} {E : Prop} (hgd : o.guard = none) (s x : Operand)
    (ho : o.op = .call { callee := .builtin .append, args := #[s, x], argTypes := #[23, 23] })
    (w : World) (base : Nat) (hbase : base ≤ w.heap.size) (A : Option Addr) (c n : Nat) (l : List Wr) (hn : n = l.length) (h : CanApp w base A c l) (B : Option Addr) (d n' : Nat) (k : List Wr) (hn' : n' = k.length) (hk : SW w B k) (hl : l.length + k.length ≤ 10000)
    (hs : a.eval s = .slice A n c) (hx : a.eval x = .slice B n' d)
    (hK : ∀ A' c' w', CanApp w' base A' c' (l ++ k) → Below base w w' → (Mine w base A c l → Mine w' base A' c' (l ++ k)) → K (a.put o.dst (.slice A' (l ++ k).length c')) w') :
    if Region.wanted o (yielded ops a.tmps) = true then Oper.wp Try.prog o a w K Q else E := by
  subst hn hn'
  have hw : Region.wanted o (yielded ops a.tmps) = true := by simp [Region.wanted, hgd]
  rw [if_pos hw]
  obtain ⟨A', c', w', hrun, h2, h3, h4⟩ := run_appW o.type w base hbase A c l h B d k hk hl
  unfold Oper.wp execOp
  simp only [ho, resolve, invoke, builtin, Sem.run_bind, Sem.run_pure, Result.andThen_ok, List.map_toArray, List.map_cons, List.map_nil, hs, hx, hrun]
  exact hK A' c' w' h2 h3 h4
theorem wpList_appW {ops : Array Oper} {rest : List Oper} {o : Oper} {a : Act} {Q : Exit → Act → World → Prop} (hgd : o.guard = none) (s x : Operand)
    (ho : o.op = .call { callee := .builtin .append, args := #[s, x], argTypes := #[23, 23] })
    (w : World) (base : Nat) (hbase : base ≤ w.heap.size) (A : Option Addr) (c n : Nat) (l : List Wr) (hn : n = l.length) (h : CanApp w base A c l) (B : Option Addr) (d n' : Nat) (k : List Wr) (hn' : n' = k.length) (hk : SW w B k) (hl : l.length + k.length ≤ 10000)
    (hs : a.eval s = .slice A n c) (hx : a.eval x = .slice B n' d)
    (hK : ∀ A' c' w', CanApp w' base A' c' (l ++ k) → Below base w w' → (Mine w base A c l → Mine w' base A' c' (l ++ k)) → wpList Try.prog ops Q rest (a.put o.dst (.slice A' (l ++ k).length c')) w') : wpList Try.prog ops Q (o :: rest) a w := by
  subst hn hn'
  refine wpList_plain hgd fun K' hK' => ?_
  obtain ⟨A', c', w', hrun, h2, h3, h4⟩ := run_appW o.type w base hbase A c l h B d k hk hl
  unfold Oper.wp execOp
  simp only [ho, resolve, invoke, builtin, Sem.run_bind, Sem.run_pure, Result.andThen_ok, List.map_toArray, List.map_cons, List.map_nil, hs, hx, hrun]
  exact hK' _ _ (hK A' c' w' h2 h3 h4)

/-- The slice value '.slice A l.length c' holds the writes l, and its capacity is no less. -/
def CW (w : World) (A : Option Addr) (c : Nat) (l : List Wr) : Prop := SW w A l ∧ l.length ≤ c
theorem CW.ext {w w' : World} {A : Option Addr} {c : Nat} {l : List Wr} (h : CW w A c l) (hb : Below w.heap.size w w') : CW w' A c l := ⟨h.1.ext hb, h.2⟩
theorem CW.nil {w : World} {A : Option Addr} {c : Nat} : CW w A c [] := ⟨SW.nil, Nat.zero_le _⟩
theorem CanApp.cw {w : World} {base : Nat} {A : Option Addr} {c : Nat} {l : List Wr} (h : CanApp w base A c l) : CW w A c l := by
  refine ⟨h.sw, ?_⟩
  rcases h with ⟨hc, _⟩ | ⟨_, ⟨e, _⟩ | ⟨g, cap, cur, e, _, _, hle, _⟩⟩
  · omega
  · injection e with e1 e2 e3; omega
  · injection e with e1 e2 e3; omega
/-- What hands back writes. -/
def WsPost (l : List Wr) (w : World) (e : Ending) (w' : World) : Prop := ∃ A c, e = .returned (.slice A l.length c) ∧ CW w' A c l ∧ Below w.heap.size w w'

theorem add_zero_addr (A : Option Addr) : A.map (fun a => a.add 0) = A := by
  cases A with
  | none => rfl
  | some a => obtain ⟨b, o, sp⟩ := a; cases sp <;> simp [Addr.add]
theorem SW.take {w : World} {A : Option Addr} {l : List Wr} (h : SW w A l) (i : Nat) : SW w A (l.take i) := fun hp => by
  obtain ⟨b, off, e, hb, hc⟩ := h (by rw [flat_length] at hp ⊢; simp at hp; omega)
  refine ⟨b, off, e, hb, fun j x hx => hc j x ?_⟩
  have ht : flat l = flat (l.take i) ++ flat (l.drop i) := by rw [← flat_append, List.take_append_drop]
  rw [ht, List.getElem?_append_left (List.getElem?_eq_some_iff.1 hx).1]
  exact hx
theorem SW.drop {w : World} {A : Option Addr} {l : List Wr} (h : SW w A l) (i : Nat) : SW w (A.map (fun a => a.add (i * 3))) (l.drop i) := fun hp => by
  obtain ⟨b, off, e, hb, hc⟩ := h (by rw [flat_length] at hp ⊢; simp at hp; omega)
  have hil : i < l.length := by rw [flat_length] at hp; simp at hp; omega
  refine ⟨b, off + i * 3, by rw [e]; rcases Nat.eq_zero_or_pos i with h0 | h0 <;> simp [Addr.add, h0]; omega, hb, fun j x hx => ?_⟩
  have ht : flat l = flat (l.take i) ++ flat (l.drop i) := by rw [← flat_append, List.take_append_drop]
  have hl : (flat (l.take i)).length = i * 3 := by rw [flat_length]; simp; omega
  have := hc (i * 3 + j) x (by rw [ht, List.getElem?_append_right (by omega), hl]; simpa using hx)
  rw [show off + i * 3 + j = off + (i * 3 + j) by omega]
  exact this
section
variable {w : World} {A : Option Addr} {c : Nat} {l : List Wr}
theorem size_wr (w : World) : (sizeOf 28).run Try.prog w = .ok 3 w := by
  obtain ⟨i0, hi, hz0, hz1, hz2⟩ := info_parts wrInfo
  simp [sizeOf, typeInfo, hi, hz1]
/-- l[:i] -/
theorem run_pre (A : Option Addr) (c n : Nat) (i : Int) (hi : 0 ≤ i) (hc : i ≤ c) (W : World) : (Instr.slice 23 (.slice A n c) none (some (.int .i64 i)) none).run Try.prog W = .ok (.slice A i.toNat c) W := by
  have hs := size_wr W
  simp [Instr.slice, run_underlying Try.underlying23, Instr.sliceBounds, Instr.sliceBound, hi, hc, hs, add_zero_addr, asIntOf]
/-- l[:i:i] -/
theorem run_full (A : Option Addr) (c n : Nat) (i : Int) (hi : 0 ≤ i) (hc : i ≤ c) (W : World) : (Instr.slice 23 (.slice A n c) none (some (.int .i64 i)) (some (.int .i64 i))).run Try.prog W = .ok (.slice A i.toNat i.toNat) W := by
  have hs := size_wr W
  simp [Instr.slice, run_underlying Try.underlying23, Instr.sliceBounds, Instr.sliceBound, hi, hc, hs, add_zero_addr, asIntOf]
  intro h
  omega
/-- l[i:] -/
theorem run_suf (A : Option Addr) (c n : Nat) (i : Int) (hi : 0 ≤ i) (hn : i ≤ n) (W : World) :
    (Instr.slice 23 (.slice A n c) (some (.int .i64 i)) none none).run Try.prog W = .ok (.slice (if c = i.toNat then A else A.map (fun a => a.add (i.toNat * 3))) (n - i.toNat) (c - i.toNat)) W := by
  have hs := size_wr W
  simp [Instr.slice, run_underlying Try.underlying23, Instr.sliceBounds, Instr.sliceBound, hi, hn, hs, asIntOf]
theorem CW.suf (h : CW w A c l) (i : Nat) (hi : i ≤ l.length) : CW w (if c = i then A else A.map (fun a => a.add (i * 3))) (c - i) (l.drop i) := by
  refine ⟨?_, by simp; have := h.2; omega⟩
  by_cases e : c = i
  · rw [if_pos e, List.drop_eq_nil_of_le (by have := h.2; omega)]
    exact SW.nil
  · rw [if_neg e]
    exact h.1.drop i
end

set_option maxRecDepth 100000 in
set_option maxHeartbeats 1000000 in
theorem OwnWrites_any (A : Option Addr) (c : Nat) (l : List Wr) (w : World) (ha : SW w A l) (la : l.length ≤ 1000) :
    Calls Try.prog 15 #[.slice A l.length c] w (WsPost l w) := by
  have HA := Lib.hid ha
  clear ha
  go_enter Try.func15, Try.ntmps15
  go_wp2_with (at_builtin; refine wpList_appW rfl (.tmp 3) (.tmp 4) rfl _ w.heap.size (by simp) (some ⟨w.heap.size, 0, none⟩) 0 0 [] rfl (.inl ⟨rfl, SW.nil⟩) A c l.length l rfl (HA.out.ext (by repeat' (first | with_reducible exact Below.refl _ _ | with_reducible assumption | with_reducible apply Below.drew | with_reducible apply below_drewN | with_reducible apply Below.alloc | with_reducible apply Below.setCell | (with_reducible refine Below.trans ?_ (Below.mono (by assumption) ?_)) | (simp; done) | (simp; omega) | omega | with_reducible apply le_size_alloc | with_reducible apply le_size_drewN | with_reducible apply le_size_drew | with_reducible apply le_size_setCell | refine Nat.le_trans ?_ (Below.size (by assumption))))) (by simp; omega) rfl rfl ?_; intro A' c' w1 hc1 hb1 _)
  go_ret
  exact ⟨A', c', rfl, hc1.cw, (by repeat' (first | with_reducible exact Below.refl _ _ | with_reducible assumption | with_reducible apply Below.drew | with_reducible apply below_drewN | with_reducible apply Below.alloc | with_reducible apply Below.setCell | (with_reducible refine Below.trans ?_ (Below.mono (by assumption) ?_)) | (simp; done) | (simp; omega) | omega | with_reducible apply le_size_alloc | with_reducible apply le_size_drewN | with_reducible apply le_size_drew | with_reducible apply le_size_setCell | refine Nat.le_trans ?_ (Below.size (by assumption))))⟩
end Go.Proofs.Ytnglompninkmbaa
