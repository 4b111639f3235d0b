/- Plain laws of a sweep: it goes on where another one has ended, and what it does not move stays where it is. No program in sight. -/
import Derived.Test.YtiobbdfkimpfbaaMgF
import Derived.Test.YtiobbdfkimpfbaaScU
namespace Go.Proofs.Ytiobbdfkimpfbaa
set_option linter.unusedSimpArgs false
set_option linter.unusedVariables false
open Go.RowKit Go.Maps

/-- Where a sweep is behind m steps, step by step: the lists, the victims, the frames moved. -/
structure SwR where
  xs : List Int
  ys : List Int
  rs : List Bool
  vic : List Int
  mov : List Int
def swS (T : Int) : Nat → List Int → List Int → List Bool → SwR
  | 0, xs, ys, rs => ⟨xs, ys, rs, [], []⟩
  | m + 1, xs, ys, rs => if (nxtS T xs ys rs).1 = 0 then ⟨xs, ys, rs, [], []⟩ else
      let r := swS T m (nxtS T xs ys rs).2.2.1 (nxtS T xs ys rs).2.2.2.1 (nxtS T xs ys rs).2.2.2.2
      ⟨r.xs, r.ys, r.rs, if (nxtS T xs ys rs).1 = 3 then (nxtS T xs ys rs).2.1 :: r.vic else r.vic, if (nxtS T xs ys rs).1 = 3 then r.mov else (nxtS T xs ys rs).2.1 :: r.mov⟩
def nxX (T : Int) (xs ys : List Int) (rs : List Bool) : List Int := (nxtS T xs ys rs).2.2.1
def nxY (T : Int) (xs ys : List Int) (rs : List Bool) : List Int := (nxtS T xs ys rs).2.2.2.1
def nxR (T : Int) (xs ys : List Int) (rs : List Bool) : List Bool := (nxtS T xs ys rs).2.2.2.2
theorem swS_stop {T : Int} {xs ys : List Int} {rs : List Bool} (h : (nxtS T xs ys rs).1 = 0) (m : Nat) : swS T m xs ys rs = ⟨xs, ys, rs, [], []⟩ := by
  cases m with
  | zero => rfl
  | succ m => unfold swS; rw [if_pos h]
theorem swS_go {T : Int} {xs ys : List Int} {rs : List Bool} (h : (nxtS T xs ys rs).1 ≠ 0) (m : Nat) : swS T (m + 1) xs ys rs =
    ⟨(swS T m (nxX T xs ys rs) (nxY T xs ys rs) (nxR T xs ys rs)).xs, (swS T m (nxX T xs ys rs) (nxY T xs ys rs) (nxR T xs ys rs)).ys, (swS T m (nxX T xs ys rs) (nxY T xs ys rs) (nxR T xs ys rs)).rs,
      if (nxtS T xs ys rs).1 = 3 then (nxtS T xs ys rs).2.1 :: (swS T m (nxX T xs ys rs) (nxY T xs ys rs) (nxR T xs ys rs)).vic else (swS T m (nxX T xs ys rs) (nxY T xs ys rs) (nxR T xs ys rs)).vic,
      if (nxtS T xs ys rs).1 = 3 then (swS T m (nxX T xs ys rs) (nxY T xs ys rs) (nxR T xs ys rs)).mov else (nxtS T xs ys rs).2.1 :: (swS T m (nxX T xs ys rs) (nxY T xs ys rs) (nxR T xs ys rs)).mov⟩ := by
  conv => lhs; unfold swS
  rw [if_neg h]
  rfl
theorem nxt_what {T : Int} {xs ys : List Int} {rs : List Bool} (h : (nxtS T xs ys rs).1 ≠ 0) : ((nxtS T xs ys rs).1 = 3 ∧ mvS (nxtS T xs ys rs).1 (nxtS T xs ys rs).2.1 = id) ∨ ((nxtS T xs ys rs).1 ≠ 3 ∧ mvS (nxtS T xs ys rs).1 (nxtS T xs ys rs).2.1 = List.cons (nxtS T xs ys rs).2.1) := by
  have hw : (nxtS T xs ys rs).1 = 0 ∨ (nxtS T xs ys rs).1 = 1 ∨ (nxtS T xs ys rs).1 = 2 ∨ (nxtS T xs ys rs).1 = 3 := by
    unfold nxtS
    split
    · exact .inr (.inl rfl)
    · split
      · exact .inl rfl
      · split
        · exact .inr (.inr (.inl rfl))
        · exact .inr (.inr (.inr rfl))
  rcases hw with e | e | e | e
  · exact absurd e h
  · refine .inr ⟨by omega, funext fun l => ?_⟩; unfold mvS; rw [if_pos (.inl e)]
  · refine .inr ⟨by omega, funext fun l => ?_⟩; unfold mvS; rw [if_pos (.inr e)]
  · refine .inl ⟨e, funext fun l => ?_⟩; unfold mvS; rw [if_neg (by omega)]; rfl
theorem vicP_cons2 (e : EvP) (l : List EvP) : vicP (e :: l) = if e.what = 3 then e.f :: vicP l else vicP l := by
  unfold vicP
  by_cases h : e.what = 3 <;> simp [h]
/-- Behind m events: the state. -/
def lstE (d : EvP) (l : List EvP) : EvP := l.getLast?.getD d
theorem lstE_cons (d e : EvP) (l : List EvP) : lstE d (e :: l) = lstE e l := by
  unfold lstE
  cases l with
  | nil => rfl
  | cons a t => rw [List.getLast?_cons_cons, List.getLast?_eq_some_getLast (List.cons_ne_nil a t)]; rfl
/-- The events' end, and the sweep step by step. -/
theorem sw_full {T : Int} : ∀ (m : Nat) (xs ys : List Int) (rs : List Bool) (mv : List Int) (d : EvP), lruChk xs ys rs = 0 → d.xs = xs → d.ys = ys → d.rs = rs → d.mv = mv →
    (lstE d ((full T xs ys rs mv).take m)).xs = (swS T m xs ys rs).xs ∧ (lstE d ((full T xs ys rs mv).take m)).ys = (swS T m xs ys rs).ys ∧ (lstE d ((full T xs ys rs mv).take m)).rs = (swS T m xs ys rs).rs ∧
    (∀ f, f ∈ (lstE d ((full T xs ys rs mv).take m)).mv ↔ f ∈ (swS T m xs ys rs).mov ∨ f ∈ mv) ∧ vicP ((full T xs ys rs mv).take m) = (swS T m xs ys rs).vic := by
  intro m
  induction m with
  | zero =>
    intro xs ys rs mv d hc h1 h2 h3 h4
    subst h1 h2 h3 h4
    refine ⟨rfl, rfl, rfl, fun f => ?_, rfl⟩
    show f ∈ d.mv ↔ f ∈ [] ∨ f ∈ d.mv
    simp
  | succ m ih =>
    intro xs ys rs mv d hc h1 h2 h3 h4
    have ok := nxt_ok (T := T) hc
    rw [full_eq mv hc]
    by_cases h : (nxtS T xs ys rs).1 = 0
    · rw [if_pos h, swS_stop h, show List.take (m + 1) [EvP.mk 0 (-1) xs ys rs mv] = [EvP.mk 0 (-1) xs ys rs mv] by simp, lstE_cons]
      refine ⟨rfl, rfl, rfl, fun f => ?_, rfl⟩
      show f ∈ mv ↔ f ∈ [] ∨ f ∈ mv
      simp
    · rw [if_neg h, List.take_succ_cons, lstE_cons, swS_go h, vicP_cons2]
      obtain ⟨i1, i2, i3, i4, i5⟩ := ih (nxX T xs ys rs) (nxY T xs ys rs) (nxR T xs ys rs) (mvS (nxtS T xs ys rs).1 (nxtS T xs ys rs).2.1 mv) ⟨(nxtS T xs ys rs).1, (nxtS T xs ys rs).2.1, (nxtS T xs ys rs).2.2.1, (nxtS T xs ys rs).2.2.2.1, (nxtS T xs ys rs).2.2.2.2, mvS (nxtS T xs ys rs).1 (nxtS T xs ys rs).2.1 mv⟩ ok.chk rfl rfl rfl rfl
      refine ⟨i1, i2, i3, fun f => ?_, ?_⟩
      · rw [show (f ∈ _) = _ from rfl]
        refine (i4 f).trans ?_
        dsimp only
        rcases nxt_what h with ⟨e, e2⟩ | ⟨e, e2⟩
        · rw [e2, if_pos e]; rfl
        · rw [e2, if_neg e]
          simp only [List.mem_cons]
          constructor
          · rintro (h | h | h)
            · exact .inl (.inr h)
            · exact .inl (.inl h)
            · exact .inr h
          · rintro ((h | h) | h)
            · exact .inr (.inl h)
            · exact .inl h
            · exact .inr (.inr h)
      · dsimp only
        rw [show vicP (List.take m (full T (nxtS T xs ys rs).2.2.1 (nxtS T xs ys rs).2.2.2.1 (nxtS T xs ys rs).2.2.2.2 (mvS (nxtS T xs ys rs).1 (nxtS T xs ys rs).2.1 mv))) = _ from i5]
/-- A sweep goes on where another one has ended. -/
theorem sw_add {T : Int} (m : Nat) : ∀ (n : Nat) (xs ys : List Int) (rs : List Bool), (swS T m (swS T n xs ys rs).xs (swS T n xs ys rs).ys (swS T n xs ys rs).rs).xs = (swS T (n + m) xs ys rs).xs ∧
    (swS T m (swS T n xs ys rs).xs (swS T n xs ys rs).ys (swS T n xs ys rs).rs).ys = (swS T (n + m) xs ys rs).ys ∧ (swS T m (swS T n xs ys rs).xs (swS T n xs ys rs).ys (swS T n xs ys rs).rs).rs = (swS T (n + m) xs ys rs).rs ∧
    (swS T n xs ys rs).vic ++ (swS T m (swS T n xs ys rs).xs (swS T n xs ys rs).ys (swS T n xs ys rs).rs).vic = (swS T (n + m) xs ys rs).vic := by
  intro n
  induction n with
  | zero => intro xs ys rs; rw [Nat.zero_add]; exact ⟨rfl, rfl, rfl, rfl⟩
  | succ n ih =>
    intro xs ys rs
    by_cases h : (nxtS T xs ys rs).1 = 0
    · rw [swS_stop h, swS_stop h]
      dsimp only
      rw [swS_stop h]
      exact ⟨rfl, rfl, rfl, rfl⟩
    · rw [Nat.succ_add, swS_go h, swS_go h]
      obtain ⟨i1, i2, i3, i4⟩ := ih (nxX T xs ys rs) (nxY T xs ys rs) (nxR T xs ys rs)
      dsimp only
      refine ⟨i1, i2, i3, ?_⟩
      rw [← i4]
      split <;> rfl
theorem sw_chk {T : Int} : ∀ (n : Nat) (xs ys : List Int) (rs : List Bool), lruChk xs ys rs = 0 → lruChk (swS T n xs ys rs).xs (swS T n xs ys rs).ys (swS T n xs ys rs).rs = 0 := by
  intro n
  induction n with
  | zero => intro xs ys rs h; exact h
  | succ n ih =>
    intro xs ys rs hc
    by_cases h : (nxtS T xs ys rs).1 = 0
    · rw [swS_stop h]; exact hc
    · rw [swS_go h]; exact ih _ _ _ (nxt_ok (T := T) hc).chk
theorem mem_erase_last {l : List Int} {f : Int} (h : 0 < l.length) : f ∈ l.eraseIdx (l.length - 1) ∨ f = lastF l ↔ f ∈ l := by
  conv => rhs; rw [← erase_last h]
  rw [List.mem_append, List.mem_singleton]
  rfl
/-- What a step does not move stays where it is. -/
theorem nxt_where {T : Int} {xs ys : List Int} {rs : List Bool} (hc : lruChk xs ys rs = 0) (h : (nxtS T xs ys rs).1 ≠ 0) {f : Int} (hf : f ∈ nxX T xs ys rs ++ nxY T xs ys rs) (hm : (nxtS T xs ys rs).1 = 3 ∨ f ≠ (nxtS T xs ys rs).2.1) :
    (f ∈ nxX T xs ys rs ↔ f ∈ xs) ∧ (f ∈ nxY T xs ys rs ↔ f ∈ ys) := by
  have hv := valid_of_chk hc
  unfold nxX nxY at *
  unfold nxtS at *
  by_cases h0 : 0 < xs.length ∧ (ys.length : Int) < T
  · rw [if_pos h0] at h hf hm ⊢
    dsimp only at h hf hm ⊢
    have hne : f ≠ lastF xs := by rcases hm with e | e; exact absurd e (by omega); exact e
    refine ⟨⟨fun hx => (mem_erase_last h0.1).1 (.inl hx), fun hx => ((mem_erase_last h0.1).2 hx).resolve_right hne⟩, ?_⟩
    show f ∈ lastF xs :: ys ↔ _
    rw [List.mem_cons]
    exact ⟨fun e => e.resolve_left hne, .inr⟩
  · rw [if_neg h0] at h hf hm ⊢
    by_cases h1 : ys.length = 0
    · rw [if_pos h1] at h; exact absurd rfl h
    · rw [if_neg h1] at h hf hm ⊢
      have hp : 0 < ys.length := by omega
      by_cases h2 : lastB ys rs = true
      · rw [if_pos h2] at h hf hm ⊢
        dsimp only at h hf hm ⊢
        have hne : f ≠ lastF ys := by rcases hm with e | e; exact absurd e (by omega); exact e
        refine ⟨?_, ⟨fun hx => (mem_erase_last hp).1 (.inl hx), fun hx => ((mem_erase_last hp).2 hx).resolve_right hne⟩⟩
        show f ∈ lastF ys :: xs ↔ _
        rw [List.mem_cons]
        exact ⟨fun e => e.resolve_left hne, .inr⟩
      · rw [if_neg h2] at h hf hm ⊢
        dsimp only at h hf hm ⊢
        have hne : f ≠ lastF ys := by
          rw [← wo_append] at hf
          exact (wo_mem hf).2
        exact ⟨⟨fun hx => (wo_mem hx).1, fun hx => mem_wo hx hne⟩, ⟨fun hx => (wo_mem hx).1, fun hx => mem_wo hx hne⟩⟩
theorem sw_where {T : Int} : ∀ (n : Nat) (xs ys : List Int) (rs : List Bool), lruChk xs ys rs = 0 → ∀ f, f ∈ (swS T n xs ys rs).xs ++ (swS T n xs ys rs).ys → f ∉ (swS T n xs ys rs).mov →
    (f ∈ (swS T n xs ys rs).xs ↔ f ∈ xs) ∧ (f ∈ (swS T n xs ys rs).ys ↔ f ∈ ys) := by
  intro n
  induction n with
  | zero => intro xs ys rs _ f _ _; exact ⟨Iff.rfl, Iff.rfl⟩
  | succ n ih =>
    intro xs ys rs hc f hf hm
    by_cases h : (nxtS T xs ys rs).1 = 0
    · rw [swS_stop h]; exact ⟨Iff.rfl, Iff.rfl⟩
    · rw [swS_go h] at hf hm ⊢
      dsimp only at hf hm ⊢
      have hi := ih (nxX T xs ys rs) (nxY T xs ys rs) (nxR T xs ys rs) (nxt_ok (T := T) hc).chk f hf (fun hx => hm (by split; exact hx; exact List.mem_cons_of_mem _ hx))
      have hf2 : f ∈ nxX T xs ys rs ++ nxY T xs ys rs := by
        rcases List.mem_append.1 hf with hx | hx
        · exact List.mem_append.2 (.inl (hi.1.1 hx))
        · exact List.mem_append.2 (.inr (hi.2.1 hx))
      have hw := nxt_where (T := T) hc h hf2 (by
        by_cases e : (nxtS T xs ys rs).1 = 3
        · exact .inl e
        · refine .inr fun e2 => hm ?_
          rw [if_neg e, e2]
          exact List.mem_cons_self)
      exact ⟨hi.1.trans hw.1, hi.2.trans hw.2⟩
theorem sw_mov {T : Int} : ∀ (n : Nat) (xs ys : List Int) (rs : List Bool), lruChk xs ys rs = 0 → ∀ f ∈ (swS T n xs ys rs).mov, 0 ≤ f ∧ f < 256 := by
  intro n
  induction n with
  | zero => intro xs ys rs _ f hf; exact absurd hf (by simp [swS])
  | succ n ih =>
    intro xs ys rs hc f hf
    have ok := nxt_ok (T := T) hc
    by_cases h : (nxtS T xs ys rs).1 = 0
    · rw [swS_stop h] at hf; exact absurd hf (by simp)
    · rw [swS_go h] at hf
      dsimp only at hf
      split at hf
      · exact ih _ _ _ ok.chk f hf
      · rcases List.mem_cons.1 hf with rfl | hf
        · exact ok.fr h
        · exact ih _ _ _ ok.chk f hf
theorem sw_len {T : Int} : ∀ (n : Nat) (xs ys : List Int) (rs : List Bool), (swS T n xs ys rs).rs.length = rs.length := by
  intro n
  induction n with
  | zero => intro xs ys rs; rfl
  | succ n ih =>
    intro xs ys rs
    by_cases h : (nxtS T xs ys rs).1 = 0
    · rw [swS_stop h]
    · rw [swS_go h]
      refine (ih _ _ _).trans ?_
      unfold nxR nxtS
      repeat' split
      all_goals simp
theorem runE_sw {T : Int} {xs ys : List Int} {rs : List Bool} (hc : lruChk xs ys rs = 0) (m : Nat) : (runE T xs ys rs m).xs = (swS T m xs ys rs).xs ∧ (runE T xs ys rs m).ys = (swS T m xs ys rs).ys ∧ (runE T xs ys rs m).rs = (swS T m xs ys rs).rs ∧
    (∀ f, f ∈ (runE T xs ys rs m).mv ↔ f ∈ (swS T m xs ys rs).mov) ∧ vicP ((full T xs ys rs []).take m) = (swS T m xs ys rs).vic := by
  obtain ⟨a, b, c, d, e⟩ := sw_full (T := T) m xs ys rs [] ⟨0, 0, xs, ys, rs, []⟩ hc rfl rfl rfl rfl
  exact ⟨a, b, c, fun f => (d f).trans (by simp), e⟩
end Go.Proofs.Ytiobbdfkimpfbaa
