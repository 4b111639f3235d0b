/- Package rmap in plain Lean: which lists are valid, and what its functions answer. -/
import Derived.Test.YtbeddhamnefpiaaRmG
import Derived.Test.YtbeddhamnefpiaaRmF
namespace Go.Proofs.Ytbeddhamnefpiaa
set_option linter.unusedSimpArgs false
set_option linter.unusedVariables false
open Go.RowKit Go.Maps

/-- The last one of a list stands before a mapping. -/
def befL (pre : List M3) (x : M3) : Bool := match pre.getLast? with | none => true | some y => ltM y x
def hasP (pre : List M3) (p : Int × Int) : Bool := pre.any fun y => decide (y.2 = p)
/-- Check: the error, its number. -/
def chkG (pre : List M3) : List M3 → Int × Nat
  | [] => (0, 0)
  | x :: l => if okM x then (if befL pre x then (if hasP pre x.2 then (7, pre.length) else chkG (pre ++ [x]) l) else (8, pre.length)) else (2, pre.length)
def chkM (l : List M3) : Int × Nat := chkG [] l
theorem chkG_at {l : List M3} {k : Nat} {x : M3} (h : l[k]? = some x) :
    chkG (l.take k) (l.drop k) = if okM x then (if befL (l.take k) x then (if hasP (l.take k) x.2 then (7, k) else chkG (l.take (k + 1)) (l.drop (k + 1))) else (8, k)) else (2, k) := by
  obtain ⟨hk, rfl⟩ := List.getElem?_eq_some_iff.1 h
  rw [List.drop_eq_getElem_cons hk, chkG, List.take_succ_eq_append_getElem hk]
  have : (l.take k).length = k := by simp; omega
  rw [this]
theorem befL_zero (l : List M3) (x : M3) : befL (l.take 0) x = true := by simp [befL]
theorem befL_at {l : List M3} {k : Nat} {y x : M3} (h : l[k]? = some y) : befL (l.take (k + 1)) x = ltM y x := by
  rw [take_snoc h]
  simp [befL]
/-- A valid list. -/
structure OkL (l : List M3) : Prop where
  ok : ∀ m ∈ l, okM m = true
  asc : Asc l
  pl : l.Pairwise fun x y => x.2 ≠ y.2
theorem asc_snoc {pre : List M3} {x : M3} (h : Asc pre) (hb : befL pre x = true) : Asc (pre ++ [x]) := by
  unfold Asc
  rw [List.pairwise_append]
  refine ⟨h, by simp, fun a ha b hb' => ?_⟩
  simp at hb'
  subst hb'
  rcases List.eq_nil_or_concat pre with e | ⟨p, y, e⟩
  · subst e; cases ha
  · subst e
    rw [List.concat_eq_append] at *
    have hy : ltM y b = true := by simpa [befL] using hb
    rcases List.mem_append.1 ha with h1 | h1
    · exact ltM_trans ((List.pairwise_append.1 h).2.2 a h1 y (by simp)) hy
    · simp at h1; subst h1; exact hy
theorem hasP_iff {pre : List M3} {p : Int × Int} : hasP pre p = true ↔ ∃ y ∈ pre, y.2 = p := by simp [hasP]
theorem chk_ok : ∀ (l pre : List M3), OkL pre → (chkG pre l).1 = 0 → OkL (pre ++ l)
  | [], pre, h, _ => by simpa using h
  | x :: l, pre, h, hz => by
    rw [chkG] at hz
    by_cases h1 : okM x = true
    · rw [if_pos h1] at hz
      by_cases h2 : befL pre x = true
      · rw [if_pos h2] at hz
        by_cases h3 : hasP pre x.2 = true
        · rw [if_pos h3] at hz; simp at hz
        · rw [if_neg h3] at hz
          have := chk_ok l (pre ++ [x]) ⟨fun m hm => ?_, asc_snoc h.asc h2, ?_⟩ hz
          · simpa using this
          · rcases List.mem_append.1 hm with h4 | h4
            · exact h.ok m h4
            · simp at h4; subst h4; exact h1
          · rw [List.pairwise_append]
            refine ⟨h.pl, by simp, fun a ha b hb => ?_⟩
            simp at hb
            subst hb
            intro e
            exact h3 (hasP_iff.2 ⟨a, ha, e⟩)
      · rw [if_neg h2] at hz; simp at hz
    · rw [if_neg h1] at hz; simp at hz
theorem ok_chk : ∀ (l pre : List M3), OkL (pre ++ l) → chkG pre l = (0, 0)
  | [], _, _ => rfl
  | x :: l, pre, h => by
    have h1 : okM x = true := h.ok x (by simp)
    have h2 : befL pre x = true := by
      rcases List.eq_nil_or_concat pre with e | ⟨p, y, e⟩
      · subst e; simp [befL]
      · subst e
        rw [List.concat_eq_append] at *
        have := (List.pairwise_append.1 h.asc).2.2 y (by simp) x (by simp)
        simpa [befL] using this
    have h3 : ¬ hasP pre x.2 = true := fun e => by
      obtain ⟨y, hy, e⟩ := hasP_iff.1 e
      exact (List.pairwise_append.1 h.pl).2.2 y hy x (by simp) e
    rw [chkG, if_pos h1, if_pos h2, if_neg h3]
    exact ok_chk l (pre ++ [x]) (by simpa using h)
theorem chkM_ok {l : List M3} (h : (chkM l).1 = 0) : OkL l := chk_ok l [] ⟨by simp, List.Pairwise.nil, List.Pairwise.nil⟩ h
theorem OkL.chk {l : List M3} (h : OkL l) : chkM l = (0, 0) := ok_chk l [] (by simpa using h)
theorem OkL.nodup {l : List M3} (h : OkL l) : l.Nodup := h.asc.nodup
theorem OkL.inj {l : List M3} (h : OkL l) {x y : M3} (hx : x ∈ l) (hy : y ∈ l) (e : x.2 = y.2) : x = y := by
  have := h.pl
  induction l with
  | nil => cases hx
  | cons a t ih =>
    have hp := List.pairwise_cons.1 this
    rcases List.mem_cons.1 hx with h1 | h1
    · rcases List.mem_cons.1 hy with h2 | h2
      · rw [h1, h2]
      · exact absurd (h1 ▸ e) (hp.1 y h2)
    · rcases List.mem_cons.1 hy with h2 | h2
      · exact absurd (h2 ▸ e).symm (hp.1 x h1)
      · exact ih ⟨fun m hm => h.ok m (by simp [hm]), (List.pairwise_cons.1 h.asc).2, hp.2⟩ h1 h2 hp.2

/-- A mapping put into its place. -/
def putM (l : List M3) (x : M3) : List M3 := l.takeWhile (fun y => ltM y x) ++ x :: l.dropWhile (fun y => ltM y x)
theorem mem_putM {l : List M3} {x m : M3} : m ∈ putM l x ↔ m = x ∨ m ∈ l := by
  unfold putM
  conv => rhs; rhs; rw [← List.takeWhile_append_dropWhile (p := fun y => ltM y x) (l := l)]
  simp only [List.mem_append, List.mem_cons]
  constructor
  · rintro (h | h | h) <;> simp [h]
  · rintro (h | h | h) <;> simp [h]
theorem asc_putM : ∀ {l : List M3} {x : M3}, Asc l → x ∉ l → Asc (putM l x)
  | [], x, _, _ => by simp [putM, Asc]
  | a :: l, x, h, hx => by
    have hp := List.pairwise_cons.1 h
    have ih := asc_putM (l := l) (x := x) hp.2 (fun h => hx (by simp [h]))
    by_cases hl : ltM a x = true
    · have e : putM (a :: l) x = a :: putM l x := by simp [putM, hl]
      rw [e]
      refine List.pairwise_cons.2 ⟨fun b hb => ?_, ih⟩
      rcases mem_putM.1 hb with rfl | hb
      · exact hl
      · exact hp.1 b hb
    · have e : putM (a :: l) x = x :: a :: l := by simp [putM, hl]
      rw [e]
      have hxa : ltM x a = true := by
        cases h2 : ltM x a with
        | true => rfl
        | false => exact absurd (totM a x (by simpa using hl) h2) (fun e => hx (by simp [e]))
      refine List.pairwise_cons.2 ⟨fun b hb => ?_, h⟩
      rcases List.mem_cons.1 hb with rfl | hb
      · exact hxa
      · exact ltM_trans hxa (hp.1 b hb)
theorem putM_len (l : List M3) (x : M3) : (putM l x).length = l.length + 1 := by
  unfold putM
  have h := congrArg List.length (List.takeWhile_append_dropWhile (p := fun y => ltM y x) (l := l))
  simp only [List.length_append, List.length_cons] at h ⊢
  omega
theorem asc_filter {l : List M3} (h : Asc l) (p : M3 → Bool) : Asc (l.filter p) := List.Pairwise.filter _ h
theorem OkL.filter {l : List M3} (h : OkL l) (p : M3 → Bool) : OkL (l.filter p) := ⟨fun m hm => h.ok m (List.mem_filter.1 hm).1, asc_filter h.asc p, List.Pairwise.filter _ h.pl⟩
theorem pl_iff {l : List M3} : l.Pairwise (fun x y => x.2 ≠ y.2) ↔ (l.map (·.2)).Nodup := by
  rw [List.Nodup, List.pairwise_map]
theorem putM_perm (l : List M3) (x : M3) : (putM l x).Perm (x :: l) := by
  unfold putM
  refine (List.perm_middle).trans ?_
  rw [List.takeWhile_append_dropWhile]
theorem OkL.put {l : List M3} (h : OkL l) {x : M3} (hx : okM x = true) (hn : ∀ m ∈ l, m.2 ≠ x.2) : OkL (putM l x) := by
  refine ⟨fun m hm => ?_, asc_putM h.asc (fun e => hn x e rfl), ?_⟩
  · rcases mem_putM.1 hm with rfl | hm
    · exact hx
    · exact h.ok m hm
  · rw [pl_iff, ((putM_perm l x).map _).nodup_iff, List.map_cons, List.nodup_cons]
    refine ⟨fun e => ?_, pl_iff.1 h.pl⟩
    obtain ⟨m, hm, e⟩ := List.mem_map.1 e
    exact hn m hm e
theorem findM_some {l : List M3} {p : Int × Int} {f : Int} (h : findM l p = some f) : (f, p) ∈ l := by
  unfold findM at h
  obtain ⟨m, hm, rfl⟩ := Option.map_eq_some_iff.1 h
  have h1 := List.find?_some hm
  have h2 := List.mem_of_find?_eq_some hm
  simp at h1
  rw [← h1]
  exact h2
theorem findM_no {l : List M3} {p : Int × Int} (h : findM l p = none) : ∀ m ∈ l, m.2 ≠ p := by
  unfold findM at h
  rw [Option.map_eq_none_iff, List.find?_eq_none] at h
  intro m hm
  simpa using h m hm

/-- Add: the list, the error. -/
def addM (l : List M3) (f : Int) (p : Int × Int) : List M3 × Int :=
  if (chkM l).1 ≠ 0 then ([], (chkM l).1) else if okM (f, p) then (if (findM l p).isSome then ([], 7) else (putM l (f, p), 0)) else ([], 2)
/-- Find. -/
def fndM (l : List M3) (p : Int × Int) : Int × Int :=
  if (chkM l).1 ≠ 0 then (0, (chkM l).1) else if okP p then (match findM l p with | none => (0, 6) | some f => (f, 0)) else (0, 2)
/-- The list without one mapping. -/
def delM (l : List M3) (x : M3) : List M3 := l.filter fun m => decide (m ≠ x)
/-- Remove. -/
def remM (l : List M3) (p : Int × Int) : List M3 × Int × Int × Int :=
  if (fndM l p).2 ≠ 0 then ([], 0, 0, (fndM l p).2) else (delM l ((fndM l p).1, p), (fndM l p).1, cntM l (fndM l p).1 - 1, 0)
def plsM (l : List M3) (f : Int) : List (Int × Int) := (l.filter fun m => decide (m.1 = f)).map (·.2)
def okF (f : Int) : Bool := decide (0 ≤ f ∧ f < 256)
/-- Of. -/
def ofM (l : List M3) (f : Int) : List (Int × Int) × Int := if (chkM l).1 ≠ 0 then ([], (chkM l).1) else if okF f then (plsM l f, 0) else ([], 2)
/-- Drop. -/
def drpM (l : List M3) (f : Int) : List M3 × List (Int × Int) × Int := if (chkM l).1 ≠ 0 then ([], [], (chkM l).1) else if okF f then (l.filter (fun m => decide (m.1 ≠ f)), plsM l f, 0) else ([], [], 2)
/-- Move. -/
def movM (l : List M3) (p : Int × Int) (f : Int) : List M3 × Int × Int :=
  if (chkM l).1 ≠ 0 then ([], 0, (chkM l).1) else if okM (f, p) then (match findM l p with | none => ([], 0, 6) | some o => (putM (delM l (o, p)) (f, p), cntM (putM (delM l (o, p)) (f, p)) o, 0)) else ([], 0, 2)
/-- Counts. -/
def cnsM (l : List M3) : List Int × Int := if (chkM l).1 ≠ 0 then ([], (chkM l).1) else ((List.range 256).map (fun f : Nat => cntM l f), 0)
def keptM (l : List M3) (n : Int) : List M3 := l.filter fun m => decide (m.2.1 ≠ n)
def freedM (l : List M3) (n : Int) : List Int := ((List.range 256).map (fun f : Nat => (f : Int))).filter fun f => decide (0 < cntM l f) && decide (cntM (keptM l n) f = 0)
def okN (n : Int) : Bool := decide (1 ≤ n ∧ n ≤ 8)
/-- Exit. -/
def extM (l : List M3) (n : Int) : List M3 × List Int × Int := if (chkM l).1 ≠ 0 then ([], [], (chkM l).1) else if okN n then (keptM l n, freedM l n, 0) else ([], [], 2)
def frkL (l : List M3) (n c : Int) : List M3 := (l.filter (fun m => decide (m.2.1 = n))).foldl (fun o m => putM o (m.1, c, m.2.2)) l
/-- Fork. -/
def frkM (l : List M3) (n c : Int) : List M3 × Int :=
  if (chkM l).1 ≠ 0 then ([], (chkM l).1) else if okN n && (okN c && decide (n ≠ c)) then (if l.any (fun m => decide (m.2.1 = c)) then ([], 7) else (frkL l n c, 0)) else ([], 2)
end Go.Proofs.Ytbeddhamnefpiaa
