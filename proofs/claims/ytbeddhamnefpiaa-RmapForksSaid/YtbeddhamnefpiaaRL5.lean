/- The plain law behind RmapForks. -/
import Derived.Test.YtbeddhamnefpiaaRL4
import Derived.Test.YtbeddhamnefpiaaAppJ
namespace Go.Proofs.Ytbeddhamnefpiaa
set_option linter.unusedSimpArgs false
set_option linter.unusedVariables false
open Go.RowKit Go.Maps

theorem OkL.foldput : ∀ (ys o : List M3), OkL o → (∀ m ∈ ys, okM m = true) → ys.Pairwise (fun x y => x.2 ≠ y.2) → (∀ m ∈ ys, ∀ y ∈ o, y.2 ≠ m.2) → OkL (ys.foldl putM o)
  | [], o, h, _, _, _ => h
  | x :: ys, o, h, hok, hp, hn => by
    rw [List.pairwise_cons] at hp
    refine OkL.foldput ys (putM o x) (h.put (hok x (List.mem_cons_self ..)) (fun m hm => hn x (List.mem_cons_self ..) m hm)) (fun m hm => hok m (List.mem_cons_of_mem _ hm)) hp.2 (fun m hm y hy => ?_)
    rcases mem_putM.1 hy with rfl | hy
    · exact hp.1 m hm
    · exact hn m (List.mem_cons_of_mem _ hm) y hy
theorem addsF_pl {l : List M3} (ok : OkL l) (n c : Int) : (addsF l n c).Pairwise (fun x y => x.2 ≠ y.2) := by
  unfold addsF
  rw [List.pairwise_map]
  have h : (l.filter fun m => decide (m.2.1 = n)).Pairwise (fun x y => x.2 ≠ y.2) := List.Pairwise.filter _ ok.pl
  refine List.Pairwise.imp_of_mem (fun {x y} hx hy hxy e => ?_) h
  have h1 : x.2.1 = n := by simpa using (List.mem_filter.1 hx).2
  have h2 : y.2.1 = n := by simpa using (List.mem_filter.1 hy).2
  injection e with e1 e2
  exact hxy (Prod.ext (h1.trans h2.symm) e2)
structure ForkF (l a : List M3) (p : Int) : Prop where
  frk : frkM l p 7 = (a, 0)
  ok : OkL a
  kept : keptM a 7 = l
  free : freedM a 7 = []
  len : a.length ≤ 60
  cnt : ∀ f, 0 < cntM a f ↔ 0 < cntM l f
theorem fork_facts {l : List M3} (h : MadeL l) {p : Int} (hp : 1 ≤ p ∧ p ≤ 4) : ∃ a, ForkF l a p := by
  have hany : l.any (fun m => decide (m.2.1 = 7)) = false := by
    rw [List.any_eq_false]
    intro m hm
    have := h.lo m hm
    simp only [decide_eq_true_eq]
    omega
  have hok5 : (okN p && (okN 7 && decide (p ≠ 7))) = true := by unfold okN; simp; omega
  have hfr : frkM l p 7 = (frkL l p 7, 0) := by unfold frkM; rw [h.ok.chk, if_neg (by simp), if_pos hok5, hany]; rfl
  obtain ⟨hasc, hmem⟩ := frkL_spec h.ok hany (n := p) (c := 7)
  have hadd : ∀ m ∈ addsF l p 7, m.2.1 = 7 := fun m hm => by
    obtain ⟨y, _, _, rfl⟩ := mem_addsF.1 hm
    rfl
  have hoka : OkL (frkL l p 7) := by
    rw [frkL_eq]
    refine OkL.foldput _ _ h.ok (fun m hm => ?_) (addsF_pl h.ok p 7) (fun m hm y hy e => ?_)
    · obtain ⟨y, hy, _, rfl⟩ := mem_addsF.1 hm
      have := (okM_iff y).1 (h.ok.ok y hy)
      rw [okM_iff]
      dsimp only
      omega
    · have h1 := hadd m hm
      have h2 := h.lo y hy
      rw [e] at h2
      omega
  have hkept : keptM (frkL l p 7) 7 = l := by
    refine asc_eq _ _ (asc_filter hasc _) h.ok.asc (fun m => ?_)
    unfold keptM
    rw [List.mem_filter, hmem, decide_eq_true_eq]
    constructor
    · rintro ⟨h1 | h1, h2⟩
      · exact absurd (hadd m h1) h2
      · exact h1
    · intro h1
      exact ⟨.inr h1, by have := h.lo m h1; omega⟩
  have hcnt : ∀ f, 0 < cntM (frkL l p 7) f ↔ 0 < cntM l f := by
    intro f
    rw [cntM_pos, cntM_pos]
    constructor
    · rintro ⟨m, hm, rfl⟩
      rcases (hmem m).1 hm with h1 | h1
      · obtain ⟨y, hy, _, rfl⟩ := mem_addsF.1 h1
        exact ⟨y, hy, rfl⟩
      · exact ⟨m, h1, rfl⟩
    · rintro ⟨m, hm, rfl⟩
      exact ⟨m, (hmem m).2 (.inr hm), rfl⟩
  refine ⟨_, hfr, hoka, hkept, ?_, ?_, hcnt⟩
  · unfold freedM
    rw [hkept, List.filter_eq_nil_iff]
    intro f _ hf
    simp only [Bool.and_eq_true, decide_eq_true_eq] at hf
    have := (hcnt f).1 hf.1
    omega
  · have h1 := frkM_len l p 7
    rw [hfr] at h1
    have := h.len
    dsimp only at h1
    omega
theorem cntM_kept_le (l : List M3) (n f : Int) : cntM (keptM l n) f ≤ cntM l f := by
  have h : ((keptM l n).filter fun m => decide (m.1 = f)).length ≤ (l.filter fun m => decide (m.1 = f)).length := by
    have hs : ((keptM l n).filter fun m => decide (m.1 = f)).Sublist (l.filter fun m => decide (m.1 = f)) := by
      unfold keptM
      exact List.Sublist.filter _ List.filter_sublist
    exact hs.length_le
  unfold cntM
  omega
/-- What has been freed when the processes below k are gone. -/
structure GoneF (a N : List M3) (F : List Int) (k : Nat) : Prop where
  ok : OkL N
  len : N.length ≤ 60
  hi : ∀ m ∈ N, (k : Int) ≤ m.2.1
  mono : ∀ f, cntM N f ≤ cntM a f
  mem : ∀ f : Int, f ∈ F ↔ (0 ≤ f ∧ f < 256) ∧ 0 < cntM a f ∧ cntM N f = 0
  flen : F.length ≤ 256 * k
theorem freedM_in {l : List M3} {n f : Int} : f ∈ freedM l n ↔ (0 ≤ f ∧ f < 256) ∧ 0 < cntM l f ∧ cntM (keptM l n) f = 0 := freedM_mem' f
theorem GoneF.start {l a : List M3} {p : Int} (h : ForkF l a p) : GoneF a a [] 1 := by
  refine ⟨h.ok, h.len, fun m hm => ?_, fun f => Int.le_refl _, fun f => ?_, by simp⟩
  · have := ((okM_iff m).1 (h.ok.ok m hm)).2.1.1
    omega
  · simp only [List.not_mem_nil, false_iff]
    rintro ⟨_, h1, h2⟩
    omega
theorem GoneF.next {a N : List M3} {F : List Int} {k : Nat} (h : GoneF a N F k) : GoneF a (keptM N k) (F ++ freedM N k) (k + 1) := by
  have hsub : ∀ m ∈ keptM N k, m ∈ N ∧ m.2.1 ≠ (k : Int) := fun m hm => by
    have := List.mem_filter.1 hm
    exact ⟨this.1, by simpa using this.2⟩
  refine ⟨h.ok.filter _, Nat.le_trans (List.length_filter_le _ _) h.len, fun m hm => ?_, fun f => Int.le_trans (cntM_kept_le N k f) (h.mono f), fun f => ?_, ?_⟩
  · obtain ⟨h1, h2⟩ := hsub m hm
    have := h.hi m h1
    omega
  · rw [List.mem_append, h.mem, freedM_in]
    have h1 := cntM_kept_le N k f
    have h2 := h.mono f
    have h3 := (cntM_le (keptM N k) f).1
    have h4 := (cntM_le N f).1
    constructor
    · rintro (⟨h5, h6, h7⟩ | ⟨h5, h6, h7⟩)
      · exact ⟨h5, h6, by omega⟩
      · exact ⟨h5, by omega, h7⟩
    · rintro ⟨h5, h6, h7⟩
      by_cases h8 : cntM N f = 0
      · exact .inl ⟨h5, h6, h8⟩
      · exact .inr ⟨h5, by omega, h7⟩
  · rw [List.length_append]
    have := h.flen
    have := freedM_len N k
    omega
theorem GoneF.not_in {a N : List M3} {F : List Int} {k i : Nat} (h : GoneF a N F k) {x : Int} (hx : (freedM N k)[i]? = some x) : x ∉ F ++ (freedM N k).take i := by
  have hm := List.mem_of_getElem? hx
  rw [freedM_in] at hm
  intro hin
  rcases List.mem_append.1 hin with h1 | h1
  · have := (h.mem x).1 h1
    omega
  · have hnd : (freedM N k).Nodup := by
      exact (freedM_asc N k).imp (fun h e => by omega)
    obtain ⟨j, hj⟩ := List.mem_iff_getElem?.1 h1
    rw [List.getElem?_take] at hj
    split at hj
    · rename_i hji
      obtain ⟨q1, q2⟩ := List.getElem?_eq_some_iff.1 hj
      obtain ⟨q3, q4⟩ := List.getElem?_eq_some_iff.1 hx
      have := (List.getElem_inj hnd).1 (q2.trans q4.symm)
      omega
    · cases hj
theorem GoneF.done {a N : List M3} {F : List Int} (h : GoneF a N F 9) : N = [] := by
  cases N with
  | nil => rfl
  | cons m t =>
    have h1 := h.hi m (List.mem_cons_self ..)
    have h2 := ((okM_iff m).1 (h.ok.ok m (List.mem_cons_self ..))).2.1.2
    omega
theorem GoneF.last {l a : List M3} {p : Int} {F : List Int} (h : GoneF a [] F 9) (hf : ForkF l a p) {k : Nat} (hk : k < 256) : (decide (0 < cntM l k)) = decide ((k : Int) ∈ F) := by
  have h1 := h.mem k
  have h2 := hf.cnt k
  have h3 : cntM [] (k : Int) = 0 := by simp [cntM]
  rw [decide_eq_decide, h1, ← h2]
  constructor
  · intro h4; exact ⟨by omega, h4, h3⟩
  · intro h4; exact h4.2.1
theorem cnsM_at2 {l : List M3} (ok : OkL l) {k : Nat} (h : k < 256) : (cnsM l).1[k]? = some (cntM l k) := by
  unfold cnsM
  rw [ok.chk, if_neg (by simp)]
  rw [List.getElem?_map, List.getElem?_range h]; rfl
theorem cnsM_ok {l : List M3} (ok : OkL l) : (cnsM l).2 = 0 ∧ (cnsM l).1.length = 256 := by
  unfold cnsM
  rw [ok.chk, if_neg (by simp)]
  simp
theorem SR.grownN {P : Program} {α : Type} {E : Elt P α} {w w' : World} {A : Option Addr} {l : List α} (h : SR E w A l) {row : Option Nat} (hg : w.grownBy w' row) (hne : 0 < l.length → ∀ g, row = some g → A.map (·.block) ≠ some g) : SR E w' A l := fun hp => by
  obtain ⟨b, off, e, hb, hc⟩ := h hp
  have hl : 0 < l.length := by
    cases l with
    | nil => simp [Elt.flat] at hp
    | cons x t => simp
  have hk : some b ≠ row := fun er => hne hl b er.symm (by rw [e]; rfl)
  refine ⟨b, off, e, Nat.lt_of_lt_of_le hb hg.size, fun j u hu => ?_⟩
  have h1 := hc j u hu
  unfold World.cell? at h1 ⊢
  rw [hg.block b hb hk]
  exact h1
theorem Sl.grownN {w w' : World} {A : Option Addr} {l : List Int} (h : Sl w (.int .i64) A l) {row : Option Nat} (hg : w.grownBy w' row) (hne : 0 < l.length → ∀ g, row = some g → A.map (·.block) ≠ some g) : Sl w' (.int .i64) A l := fun hp => by
  obtain ⟨b, off, e, hb, hc⟩ := h hp
  have hk : some b ≠ row := fun er => hne hp b er.symm (by rw [e]; rfl)
  refine ⟨b, off, e, Nat.lt_of_lt_of_le hb hg.size, fun j u hu => ?_⟩
  have h1 := hc j u hu
  unfold World.cell? at h1 ⊢
  rw [hg.block b hb hk]
  exact h1
theorem Own.blockLt {w : World} {base n c q : Nat} {A : Option Addr} {xs : List Int} (h : Own w base 3 (.int .i64) (.slice A n c) xs) (hq : A.map (·.block) = some q) : q < w.heap.size := by
  obtain ⟨_, ⟨e, _⟩ | ⟨g, cap, cur, e, _, hb, _⟩⟩ := h
  · injection e with e1 e2 e3; subst e1; cases hq
  · injection e with e1 e2 e3
    subst e1
    simp at hq
    subst hq
    exact (Array.getElem?_eq_some_iff.1 hb).1
theorem SR.blockLt {P : Program} {α : Type} {E : Elt P α} {w : World} {A : Option Addr} {l : List α} (h : SR E w A l) (hl : 0 < l.length) {q : Nat} (hq : A.map (·.block) = some q) : q < w.heap.size := by
  obtain ⟨b, off, e, hb, _⟩ := h (SR.len_pos hl)
  rw [e] at hq
  simp at hq
  omega
end Go.Proofs.Ytbeddhamnefpiaa
