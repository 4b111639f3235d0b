/- rmap's find and count, and the reference's at and count. -/
import Derived.Test.YtbeddhamnefpiaaRmS
namespace Go.Proofs.Ytbeddhamnefpiaa
set_option linter.unusedSimpArgs false
set_option linter.unusedVariables false
open Go.RowKit Go.Maps

/-- The frame of a place: in a list. -/
def findM (l : List M3) (p : Int × Int) : Option Int := (l.find? (fun m => decide (m.2 = p))).map (·.1)
def cntM (l : List M3) (f : Int) : Int := ((l.filter (fun m => decide (m.1 = f))).length : Nat)
theorem cntM_le (l : List M3) (f : Int) : 0 ≤ cntM l f ∧ cntM l f ≤ l.length := by
  unfold cntM
  have := List.length_filter_le (fun m : M3 => decide (m.1 = f)) l
  omega
theorem cntM_snoc (l : List M3) (x : M3) (f : Int) : cntM (l ++ [x]) f = cntM l f + if x.1 = f then 1 else 0 := by
  unfold cntM
  by_cases h : x.1 = f <;> simp [h]
theorem take_snoc {l : List M3} {k : Nat} {x : M3} (h : l[k]? = some x) : l.take (k + 1) = l.take k ++ [x] := by
  obtain ⟨hk, rfl⟩ := List.getElem?_eq_some_iff.1 h
  rw [List.take_succ_eq_append_getElem hk]
def findV (o : Option Int) : Value := match o with | some f => .tuple #[.int .i64 f, .bool true] | none => .tuple #[.int .i64 0, .bool false]
theorem findM_at {l : List M3} {p : Int × Int} {k : Nat} {x : M3} (hx : l[k]? = some x) (h : ∀ m ∈ l.take k, m.2 ≠ p) (e : x.2 = p) : findM l p = some x.1 := by
  obtain ⟨hk, rfl⟩ := List.getElem?_eq_some_iff.1 hx
  have h1 : l = l.take k ++ l[k] :: l.drop (k + 1) := by rw [List.getElem_cons_drop]; simp
  unfold findM
  conv => lhs; rw [h1]
  rw [List.find?_append, List.find?_eq_none.2 (fun m hm => by simpa using h m hm), List.find?_cons, show decide (l[k].2 = p) = true from decide_eq_true e]
  rfl
theorem findM_none {l : List M3} {p : Int × Int} (h : ∀ m ∈ l, m.2 ≠ p) : findM l p = none := by
  unfold findM
  rw [List.find?_eq_none.2 (fun m hm => by simpa using h m hm)]
  rfl
theorem ne_snoc {l : List M3} {p : Int × Int} {k : Nat} {x : M3} (hx : l[k]? = some x) (h : ∀ m ∈ l.take k, m.2 ≠ p) (e : x.2 ≠ p) : ∀ m ∈ l.take (k + 1), m.2 ≠ p := by
  rw [take_snoc hx]
  intro m hm
  rcases List.mem_append.1 hm with h1 | h1
  · exact h m h1
  · simp at h1; subst h1; exact e
theorem pl_ne {x : M3} {p q : Int} (h : ¬ x.2 = (p, q)) : x.2.1 ≠ p ∨ (x.2.1 = p ∧ x.2.2 ≠ q) := by
  by_cases e : x.2.1 = p
  · exact .inr ⟨e, fun e2 => h (Prod.ext e e2)⟩
  · exact .inl e

set_option maxRecDepth 100000 in
set_option maxHeartbeats 2000000 in
theorem find_any (A : Option Addr) (c : Nat) (l : List M3) (p q : Int) (w : World) (ha : SR mapE w A l) (la : l.length ≤ 1000) {o : Option Int} (ho : findM l (p, q) = o) :
    Calls Try.prog 50 #[.slice A l.length c, .agg #[.int .i64 p, .int .i64 q]] w fun e w' => e = .returned (findV o) ∧ Below w.heap.size w w' := by
  have HA := Lib.hid ha; have HO := Lib.hid ho
  clear ha ho
  go_enter Try.func50, Try.ntmps50
  go_wp2
  obtain ⟨V, hV⟩ : ∃ V, w.alloc (.cells #[.int .i64 p, .int .i64 q] 24) = V := ⟨_, rfl⟩
  have BV : Below w.heap.size w V := by rw [← hV]; exact (by repeat' (first | with_reducible exact Below.refl _ _ | with_reducible assumption | with_reducible apply Below.drew | with_reducible apply below_drewN | with_reducible apply Below.alloc | with_reducible apply Below.setCell | (with_reducible refine Below.trans ?_ (Below.mono (by assumption) ?_)) | (simp; done) | (simp; omega) | omega | with_reducible apply le_size_alloc | with_reducible apply le_size_drewN | with_reducible apply le_size_drew | with_reducible apply le_size_setCell | refine Nat.le_trans ?_ (Below.size (by assumption))))
  have kV : Blk V w.heap.size 24 #[.int .i64 p, .int .i64 q] := by rw [← hV]; exact (by repeat' (first | with_reducible assumption | (with_reducible refine Blk.new_ ?_ ?_ <;> first | (simp; done) | rfl) | with_reducible apply Blk.drew_ | with_reducible apply Blk.drewN_ | with_reducible apply Blk.alloc_ | with_reducible refine Blk.far_ ?_ ?_ _ | (with_reducible refine Blk.below_ ?_ (by assumption) ?_) | (simp; done) | (simp; omega) | omega | with_reducible apply le_size_alloc | with_reducible apply lt_size_alloc | with_reducible apply le_size_drewN | with_reducible apply le_size_drew | with_reducible apply le_size_setCell | refine Nat.lt_of_lt_of_le ?_ (Below.size (by assumption)) | refine Nat.le_trans ?_ (Below.size (by assumption))))
  rw [hV]
  clear hV
  have hsz := BV.size
  have hlV := kV.lt
  go_loopw [10] (fun i wr => ∃ k : Nat, k ≤ l.length ∧ i = .int .i64 k ∧ Hid (∀ m ∈ l.take k, m.2 ≠ (p, q)) ∧ Below V.heap.size V wr) (fun i _ => l.length - (intOf i).toNat)
  case atStart => exact ⟨0, by omega, rfl, by show ∀ m ∈ _, _; simp, Below.refl _ _⟩
  case round =>
    obtain ⟨k, hk, rfl, HR, hbw⟩ := hrel
    have p0 : wr.cell? ⟨w.heap.size, 0, none⟩ = some (.int .i64 p) := by simpa using (kV.below_ hbw hlV).cell_ 0
    have p1 : wr.cell? ⟨w.heap.size, 1, none⟩ = some (.int .i64 q) := by simpa using (kV.below_ hbw hlV).cell_ 1
    have hlw : w.heap.size < wr.heap.size := Nat.lt_of_lt_of_le hlV hbw.size
    by_cases hlt : k < l.length
    · obtain ⟨b, off, x, rfl, hbl, hx, q0, q1, q2⟩ := map_at ((HA.out.ext BV).ext hbw) hlt
      have i1 : (k : Int) < l.length := by omega
      by_cases e : x.2 = (p, q)
      · have hf := findM_at hx HR.out e
        obtain ⟨f, x1⟩ := x
        dsimp only at e
        subst e
        have HF := Lib.hid hf
        clear hx hf HR
        go_wp2
        refine bodyPost_ret (v := .tuple #[.int .i64 f, .bool true]) (by simp [results, Try.results50, go_sem]) rfl ?_
        refine ⟨?_, (by repeat' (first | with_reducible exact Below.refl _ _ | with_reducible assumption | with_reducible apply Below.drew | with_reducible apply below_drewN | with_reducible apply Below.alloc | with_reducible apply Below.setCell | (with_reducible refine Below.trans ?_ (Below.mono (by assumption) ?_)) | (simp; done) | (simp; omega) | omega | with_reducible apply le_size_alloc | with_reducible apply le_size_drewN | with_reducible apply le_size_drew | with_reducible apply le_size_setCell | refine Nat.le_trans ?_ (Below.size (by assumption))))⟩
        rw [← HO.out, HF.out]
        rfl
      · have HN : Hid (∀ m ∈ l.take (k + 1), m.2 ≠ (p, q)) := ne_snoc hx HR.out e
        have e' := pl_ne e
        clear hx e HR
        rcases e' with e | ⟨e0, e⟩
        · have eb : (x.2.1 == p) = false := by simpa using e
          go_wp2
          go_roundw
          case rel => exact ⟨k + 1, by omega, by go_num, HN.out, (by repeat' (first | with_reducible exact Below.refl _ _ | with_reducible assumption | with_reducible apply Below.drew | with_reducible apply below_drewN | with_reducible apply Below.alloc | with_reducible apply Below.setCell | (with_reducible refine Below.trans ?_ (Below.mono (by assumption) ?_)) | (simp; done) | (simp; omega) | omega | with_reducible apply le_size_alloc | with_reducible apply le_size_drewN | with_reducible apply le_size_drew | with_reducible apply le_size_setCell | refine Nat.le_trans ?_ (Below.size (by assumption))))⟩
          case measure => simp [intOf]; omega
        · have eb : (x.2.2 == q) = false := by simpa using e
          rw [e0] at q1
          go_wp2
          go_roundw
          case rel => exact ⟨k + 1, by omega, by go_num, HN.out, (by repeat' (first | with_reducible exact Below.refl _ _ | with_reducible assumption | with_reducible apply Below.drew | with_reducible apply below_drewN | with_reducible apply Below.alloc | with_reducible apply Below.setCell | (with_reducible refine Below.trans ?_ (Below.mono (by assumption) ?_)) | (simp; done) | (simp; omega) | omega | with_reducible apply le_size_alloc | with_reducible apply le_size_drewN | with_reducible apply le_size_drew | with_reducible apply le_size_setCell | refine Nat.le_trans ?_ (Below.size (by assumption))))⟩
          case measure => simp [intOf]; omega
    · have hd : l.take k = l := List.take_of_length_le (by omega)
      have h1 := HR.out
      rw [hd] at h1
      have HF : Hid (findM l (p, q) = none) := findM_none h1
      clear hd h1 HR
      go_wp2
      refine bodyPost_ret (v := .tuple #[.int .i64 0, .bool false]) (by simp [results, Try.results50, go_sem]) rfl ?_
      refine ⟨?_, (by repeat' (first | with_reducible exact Below.refl _ _ | with_reducible assumption | with_reducible apply Below.drew | with_reducible apply below_drewN | with_reducible apply Below.alloc | with_reducible apply Below.setCell | (with_reducible refine Below.trans ?_ (Below.mono (by assumption) ?_)) | (simp; done) | (simp; omega) | omega | with_reducible apply le_size_alloc | with_reducible apply le_size_drewN | with_reducible apply le_size_drew | with_reducible apply le_size_setCell | refine Nat.le_trans ?_ (Below.size (by assumption))))⟩
      rw [← HO.out, HF.out]
      rfl

set_option maxRecDepth 100000 in
set_option maxHeartbeats 2000000 in
theorem count_any (A : Option Addr) (c : Nat) (l : List M3) (f : Int) (w : World) (ha : SR mapE w A l) (la : l.length ≤ 5000) :
    Calls Try.prog 59 #[.slice A l.length c, .int .i64 f] w fun e w' => e = .returned (.int .i64 (cntM l f)) ∧ Below w.heap.size w w' := by
  have HA := Lib.hid ha
  clear ha
  go_enter Try.func59, Try.ntmps59
  go_wp2
  go_loopw [5, 10] (fun n i wr => ∃ (k : Nat) (z : Int), k ≤ l.length ∧ i = .int .i64 k ∧ n = .int .i64 z ∧ Hid (cntM (l.take k) f = z) ∧ 0 ≤ z ∧ z ≤ k ∧ Below w.heap.size w wr) (fun _ i _ => l.length - (intOf i).toNat)
  case atStart => exact ⟨0, 0, by omega, rfl, rfl, by show _ = _; simp [cntM], by omega, by omega, Below.refl _ _⟩
  case round =>
    obtain ⟨k, z, hk, rfl, rfl, HR, hz0, hz1, hbw⟩ := hrel
    by_cases hlt : k < l.length
    · obtain ⟨b, off, x, rfl, hbl, hx, q0, q1, q2⟩ := map_at (HA.out.ext hbw) hlt
      have i1 : (k : Int) < l.length := by omega
      have hwr : IntKind.i64.wrap (z + 1) = z + 1 := IntWalk.i64_in _ (by omega)
      have HN : Hid (cntM (l.take (k + 1)) f = z + if x.1 = f then 1 else 0) := by
        show _ = _
        rw [take_snoc hx, cntM_snoc, HR.out]
      clear hx HR
      by_cases e : x.1 = f
      · have HM : Hid (cntM (l.take (k + 1)) f = z + 1) := by show _ = _; rw [HN.out, if_pos e]
        clear HN
        have eb : (x.1 == f) = true := by simpa using e
        clear e
        go_wp2
        go_roundw
        case rel => exact ⟨k + 1, z + 1, by omega, by go_num, by first | rfl | (rw [hwr]), HM.out, by omega, by omega, (by repeat' (first | with_reducible exact Below.refl _ _ | with_reducible assumption | with_reducible apply Below.drew | with_reducible apply below_drewN | with_reducible apply Below.alloc | with_reducible apply Below.setCell | (with_reducible refine Below.trans ?_ (Below.mono (by assumption) ?_)) | (simp; done) | (simp; omega) | omega | with_reducible apply le_size_alloc | with_reducible apply le_size_drewN | with_reducible apply le_size_drew | with_reducible apply le_size_setCell | refine Nat.le_trans ?_ (Below.size (by assumption))))⟩
        case measure => simp [intOf]; omega
      · have HM : Hid (cntM (l.take (k + 1)) f = z) := by show _ = _; rw [HN.out, if_neg e]; omega
        clear HN
        have eb : (x.1 == f) = false := by simpa using e
        clear e
        go_wp2
        go_roundw
        case rel => exact ⟨k + 1, z, by omega, by go_num, rfl, HM.out, by omega, by omega, (by repeat' (first | with_reducible exact Below.refl _ _ | with_reducible assumption | with_reducible apply Below.drew | with_reducible apply below_drewN | with_reducible apply Below.alloc | with_reducible apply Below.setCell | (with_reducible refine Below.trans ?_ (Below.mono (by assumption) ?_)) | (simp; done) | (simp; omega) | omega | with_reducible apply le_size_alloc | with_reducible apply le_size_drewN | with_reducible apply le_size_drew | with_reducible apply le_size_setCell | refine Nat.le_trans ?_ (Below.size (by assumption))))⟩
        case measure => simp [intOf]; omega
    · have hd : l.take k = l := List.take_of_length_le (by omega)
      have h1 := HR.out
      rw [hd] at h1
      have HF := Lib.hid h1
      clear hd h1 HR
      go_wp2
      go_ret
      exact ⟨ret_int HF.out.symm, (by repeat' (first | with_reducible exact Below.refl _ _ | with_reducible assumption | with_reducible apply Below.drew | with_reducible apply below_drewN | with_reducible apply Below.alloc | with_reducible apply Below.setCell | (with_reducible refine Below.trans ?_ (Below.mono (by assumption) ?_)) | (simp; done) | (simp; omega) | omega | with_reducible apply le_size_alloc | with_reducible apply le_size_drewN | with_reducible apply le_size_drew | with_reducible apply le_size_setCell | refine Nat.le_trans ?_ (Below.size (by assumption))))⟩
end Go.Proofs.Ytbeddhamnefpiaa
