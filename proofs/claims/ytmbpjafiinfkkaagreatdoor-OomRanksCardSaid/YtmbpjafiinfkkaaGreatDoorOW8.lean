/- OomRanks: the plain law; headgatelaw34's has, v0. No statement is proved here. -/
import Derived.Test.YtmbpjafiinfkkaaGreatDoorOW5
import Derived.Test.YtmbpjafiinfkkaaGreatDoorOR3
namespace Go.Proofs.YtmbpjafiinfkkaaGreatDoor
set_option linter.unusedSimpArgs false
set_option linter.unusedVariables false
open Go.RowKit Go.Maps

theorem Elt.flat_set {P : Program} {α : Type} (E : Elt P α) {x y : α} {j : Nat} {u : Value} (hj : j < E.sz) (h : (E.enc x).set j u = E.enc y) : ∀ {l : List α} {k : Nat}, l[k]? = some x → (E.flat l).set (k * E.sz + j) u = E.flat (l.set k y)
  | [], _, hk => by simp at hk
  | z :: l, 0, hk => by
    simp only [List.getElem?_cons_zero, Option.some.injEq] at hk
    subst hk
    rw [Nat.zero_mul, Nat.zero_add]
    show (E.enc z ++ E.flat l).set j u = E.enc y ++ E.flat l
    rw [List.set_append_left _ _ (by rw [E.hlen]; exact hj), h]
  | z :: l, k + 1, hk => by
    have ih := Elt.flat_set E hj h (l := l) (k := k) (by simpa using hk)
    show (E.enc z ++ E.flat l).set ((k + 1) * E.sz + j) u = E.enc z ++ E.flat (l.set k y)
    rw [List.set_append_right _ _ (by rw [E.hlen, Nat.succ_mul]; omega), E.hlen, Nat.succ_mul, show k * E.sz + E.sz + j - E.sz = k * E.sz + j by omega, ih]
/-- A process with another state. -/
def deadP (p : PV) : PV := { p with st := 0 }
theorem deadP_enc (p : PV) : (procE.enc p).set 0 (.int .i64 0) = procE.enc (deadP p) := rfl
/-- Processes whose number k is dead. -/
def killL (l : List PV) (k : Nat) : List PV := match l[k]? with | some p => l.set k (deadP p) | none => l
theorem killL_some {l : List PV} {k : Nat} {p : PV} (h : l[k]? = some p) : killL l k = l.set k (deadP p) := by unfold killL; rw [h]
theorem killL_len (l : List PV) (k : Nat) : (killL l k).length = l.length := by
  unfold killL
  split
  · simp
  · rfl
theorem killL_scs {l : List PV} {k : Nat} : (killL l k).map (fun p => scoE p.es) = l.map (fun p => scoE p.es) := by
  unfold killL
  split
  · rename_i p hp
    apply List.ext_getElem?
    intro i
    by_cases h : k = i
    · subst h
      rw [List.getElem?_map, List.getElem?_map, List.getElem?_set_self (List.getElem?_eq_some_iff.1 hp).1, hp]
      rfl
    · rw [List.getElem?_map, List.getElem?_map, List.getElem?_set_ne h]
  · rfl
theorem killL_err {l : List PV} {k : Nat} : scrE (killL l k) = scrE l := by
  unfold scrE scsE
  rw [killL_len, killL_scs]
theorem killL_cand {l : List PV} {k : Nat} {sp : List Int} {j : Nat} : candAt (killL l k) sp j = if j = k then none else candAt l sp j := by
  unfold killL
  split
  · rename_i p hp
    by_cases h : j = k
    · subst h
      rw [if_pos rfl]
      unfold candAt
      rw [List.getElem?_set_self (List.getElem?_eq_some_iff.1 hp).1]
      simp [deadP]
    · rw [if_neg h]
      unfold candAt
      rw [List.getElem?_set_ne (Ne.symm h)]
  · rename_i hp
    by_cases h : j = k
    · subst h
      rw [if_pos rfl]
      unfold candAt
      rw [hp]
    · rw [if_neg h]
theorem killL_mem {l : List PV} {k : Nat} {sp : List Int} (x : C2) : x ∈ candL (killL l k) sp ↔ x ∈ candL l sp ∧ x.1 ≠ (k : Int) + 1 := by
  unfold candL
  rw [killL_len, List.mem_filterMap, List.mem_filterMap]
  constructor
  · rintro ⟨j, hj, h⟩
    rw [killL_cand] at h
    split at h
    · cases h
    · rename_i h1
      have := candAt_fst h
      exact ⟨⟨j, hj, h⟩, by omega⟩
  · rintro ⟨⟨j, hj, h⟩, hn⟩
    have := candAt_fst h
    exact ⟨j, hj, by rw [killL_cand, if_neg (by omega)]; exact h⟩
theorem srt_of {l k : List C2} (h : k.Pairwise fun x y => ltC y x = false) (hp : l.Perm k) : srtC l = k := srt_simp l k h hp
/-- Without its first one the order begins with the next one. -/
theorem rnkL_kill {l : List PV} {sp : List Int} {v : Int} {t : List Int} (h : rnkL l sp = v :: t) (hv : 1 ≤ v) : rnkL (killL l (v - 1).toNat) sp = t := by
  unfold rnkL at h ⊢
  have hS := rkS_of l sp
  cases hs : srtC (candL l sp) with
  | nil => rw [hs] at h; cases h
  | cons m S =>
    rw [hs] at h hS
    simp only [List.map_cons, List.cons.injEq] at h
    obtain ⟨h1, h2⟩ := h
    have hnd := hS.nd
    rw [List.map_cons, List.nodup_cons] at hnd
    have hSn : S.Nodup := by
      have := hnd.2
      exact List.Pairwise.of_map (S := fun a b => a ≠ b) (·.1) (fun a b h e => h (by rw [e])) this
    rw [srt_of (k := S) (List.pairwise_cons.1 hS.asc).2 ((List.perm_ext_iff_of_nodup (candL_nodup _ _) hSn).2 fun x => ?_)]
    · exact h2
    · rw [killL_mem, show (((v - 1).toNat : Nat) : Int) + 1 = v by omega, ← (srtC_mem (candL l sp) x), hs, List.mem_cons]
      constructor
      · rintro ⟨h3 | h3, h4⟩
        · rw [h3, h1] at h4; exact absurd rfl h4
        · exact h3
      · intro h3
        exact ⟨.inr h3, fun e => hnd.1 (List.mem_map.2 ⟨x, h3, by rw [e, h1]⟩)⟩
/-- What each place of the order says. -/
theorem rnk_at {l : List PV} {sp : List Int} {i : Nat} {x : Int} (h : (rnkL l sp)[i]? = some x) : 1 ≤ x ∧ x ≤ l.length ∧ x ∉ sp ∧ (∃ p, l[(x - 1).toNat]? = some p ∧ p.st ≠ 0) ∧ x ∉ (rnkL l sp).take i ∧
    (∀ y, 0 < i → (rnkL l sp)[i - 1]? = some y → ∃ s s', (scsL l)[(x - 1).toNat]? = some s ∧ (scsL l)[(y - 1).toNat]? = some s' ∧ s ≤ s') := by
  have hS := rkS_of l sp
  unfold rnkL at h ⊢
  generalize srtC (candL l sp) = S at *
  rw [List.getElem?_map, Option.map_eq_some_iff] at h
  obtain ⟨m, hm, rfl⟩ := h
  have hmS := List.mem_of_getElem? hm
  obtain ⟨r1, r2, r3⟩ := hS.rng hmS
  have hc := (hS.mem m).1 hmS
  unfold candF at hc
  rw [if_pos ⟨r1, r2⟩] at hc
  unfold candAt at hc
  refine ⟨r1, r2, ?_, ?_, ?_, ?_⟩
  · split at hc
    · split at hc
      · rename_i h1
        rw [show (((m.1 - 1).toNat : Nat) : Int) + 1 = m.1 by omega] at h1
        exact h1.2
      · simp at hc
    · simp at hc
  · split at hc
    · rename_i p hp
      split at hc
      · rename_i h1
        exact ⟨p, hp, h1.1⟩
      · simp at hc
    · simp at hc
  · rw [← List.map_take]
    have := (hS.drop i m).1 (by
      have hlt := (List.getElem?_eq_some_iff.1 hm).1
      rw [List.drop_eq_getElem_cons hlt]
      have : S[i] = m := (List.getElem?_eq_some_iff.1 hm).2
      rw [this]
      exact List.mem_cons_self)
    exact this.2
  · intro y hi hy
    rw [List.getElem?_map, Option.map_eq_some_iff] at hy
    obtain ⟨m', hm', rfl⟩ := hy
    refine ⟨m.2, m'.2, r3, (hS.rng (List.mem_of_getElem? hm')).2.2, ?_⟩
    obtain ⟨a1, a2⟩ := List.getElem?_eq_some_iff.1 hm
    obtain ⟨b1, b2⟩ := List.getElem?_eq_some_iff.1 hm'
    have := List.pairwise_iff_getElem.1 hS.asc (i - 1) i b1 a1 (by omega)
    rw [a2, b2, ltC_false] at this
    omega

set_option maxRecDepth 100000 in
set_option maxHeartbeats 2000000 in
theorem has_any (A : Option Addr) (c : Nat) (xs : List Int) (n : Int) (w : World) (hs : Sl w (.int .i64) A xs) (hl : xs.length ≤ 1000) : Calls Tryz.prog 37 #[.slice A xs.length c, .int .i64 n] w fun e w' => e = .returned (.bool (decide (n ∈ xs))) ∧ Below w.heap.size w w' := by
  obtain ⟨z, hz⟩ : ∃ z, decide (n ∈ xs) = z := ⟨_, rfl⟩
  rw [hz]
  have HZ := Lib.hid hz
  have HS := Lib.hid hs
  clear hz hs
  go_enter Tryz.func37, Tryz.ntmps37
  go_wp2
  go_loopw [5] (fun i wr => ∃ k : Nat, k ≤ xs.length ∧ i = .int .i64 k ∧ Hid (n ∉ xs.take k) ∧ Below w.heap.size w wr) (fun i _ => xs.length - (intOf i).toNat)
  case atStart => exact ⟨0, by omega, rfl, by show _ ∉ _; simp, Below.refl _ _⟩
  case round =>
    obtain ⟨k, hk, rfl, HR, hbw⟩ := hrel
    by_cases hlt : k < xs.length
    · obtain ⟨b, off, x, rfl, hbl, hx, hc⟩ := (HS.out.ext hbw).at_ hlt
      have i1 : (k : Int) < xs.length := by omega
      by_cases h1 : x = n
      · have hzz : z = true := by rw [← HZ.out]; exact decide_eq_true (by rw [← h1]; exact List.mem_of_getElem? hx)
        have hb : (x == n) = true := by simpa using h1
        subst hzz
        clear hx HR h1
        go_wp2
        refine bodyPost_ret (v := .bool true) (by simp [results, Tryz.results37, go_sem]) rfl ?_
        exact ⟨rfl, (by repeat' (first | with_reducible exact Below.refl _ _ | with_reducible assumption | with_reducible apply Below.drew | with_reducible apply below_drewN | with_reducible apply Below.alloc | with_reducible apply Below.setCell | (with_reducible refine Below.trans ?_ (Below.mono (by assumption) ?_)) | (simp; done) | (simp; omega) | omega | with_reducible apply le_size_alloc | with_reducible apply le_size_drewN | with_reducible apply le_size_drew | with_reducible apply le_size_setCell | refine Nat.le_trans ?_ (Below.size (by assumption))))⟩
      · have HR2 : Hid (n ∉ xs.take (k + 1)) := by
          show _ ∉ _
          rw [take_snocG hx, List.mem_append, List.mem_singleton]
          rintro (h | h)
          · exact HR.out h
          · exact h1 h.symm
        have hb : (x == n) = false := by simpa using h1
        clear hx HR h1
        go_wp2
        go_roundw
        case rel => exact ⟨k + 1, by omega, by go_num, HR2.out, (by repeat' (first | with_reducible exact Below.refl _ _ | with_reducible assumption | with_reducible apply Below.drew | with_reducible apply below_drewN | with_reducible apply Below.alloc | with_reducible apply Below.setCell | (with_reducible refine Below.trans ?_ (Below.mono (by assumption) ?_)) | (simp; done) | (simp; omega) | omega | with_reducible apply le_size_alloc | with_reducible apply le_size_drewN | with_reducible apply le_size_drew | with_reducible apply le_size_setCell | refine Nat.le_trans ?_ (Below.size (by assumption))))⟩
        case measure => simp [intOf]; omega
    · obtain rfl : k = xs.length := by omega
      have hzz : z = false := by rw [← HZ.out]; have := HR.out; rw [List.take_length] at this; exact decide_eq_false this
      subst hzz
      clear HR hlt
      go_wp2
      refine bodyPost_ret (v := .bool false) (by simp [results, Tryz.results37, go_sem]) rfl ?_
      exact ⟨rfl, (by repeat' (first | with_reducible exact Below.refl _ _ | with_reducible assumption | with_reducible apply Below.drew | with_reducible apply below_drewN | with_reducible apply Below.alloc | with_reducible apply Below.setCell | (with_reducible refine Below.trans ?_ (Below.mono (by assumption) ?_)) | (simp; done) | (simp; omega) | omega | with_reducible apply le_size_alloc | with_reducible apply le_size_drewN | with_reducible apply le_size_drew | with_reducible apply le_size_setCell | refine Nat.le_trans ?_ (Below.size (by assumption))))⟩
set_option maxHeartbeats 1000000 in
theorem v0_any (v n : Int) (w : World) (h : 1 ≤ v ∧ v ≤ n) : Calls Tryz.prog 38 #[.int .i64 v, .int .i64 n] w fun e w' => e = .returned (.int .i64 v) ∧ Below w.heap.size w w' := by
  have h1 : ¬ v < 1 := by omega
  have h2 : ¬ n < v := by omega
  go_enter Tryz.func38, Tryz.ntmps38
  go_wp2
  refine bodyPost_ret (v := .int .i64 v) (by simp [results, Tryz.results38, go_sem]) rfl ?_
  exact ⟨rfl, (by repeat' (first | with_reducible exact Below.refl _ _ | with_reducible assumption | with_reducible apply Below.drew | with_reducible apply below_drewN | with_reducible apply Below.alloc | with_reducible apply Below.setCell | (with_reducible refine Below.trans ?_ (Below.mono (by assumption) ?_)) | (simp; done) | (simp; omega) | omega | with_reducible apply le_size_alloc | with_reducible apply le_size_drewN | with_reducible apply le_size_drew | with_reducible apply le_size_setCell | refine Nat.le_trans ?_ (Below.size (by assumption))))⟩
end Go.Proofs.YtmbpjafiinfkkaaGreatDoor
