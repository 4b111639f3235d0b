/- rmap.Check and sound. Written by gen_rmh.py. -/
import Derived.Test.YtbeddhamnefpiaaRmP
import Derived.Test.YtbeddhamnefpiaaRmC
import Derived.Test.YtbeddhamnefpiaaFree
namespace Go.Proofs.Ytbeddhamnefpiaa
set_option linter.unusedSimpArgs false
set_option linter.unusedVariables false
open Go.RowKit Go.Maps

theorem laidOutP : laidOutB Try.prog = true := by kernel_rfl
theorem plK : Keyed Try.prog 24 := Keyed.of_law (deep_law_laid laidOutP (m := 3) (by omega) (of_decide_eq_true (by kernel_rfl)) (by kernel_rfl) (by rw [Try.underlying24]))
def klP (p : Int × Int) : Lit := .string (keyBytes [.int .i64 p.1, .int .i64 p.2])
def kvP (p : Int × Int) : Value := .agg #[.int .i64 p.1, .int .i64 p.2]
theorem pl_lit {p : Int × Int} (h : okP p = true) : keyOf Try.prog 24 (kvP p) = some (klP p) := by
  rw [okP_iff] at h
  have wp : (Lit.int .i64 p.1).wf = true := WalkArith.wf_i64 (by omega)
  have wq : (Lit.int .i64 p.2).wf = true := WalkArith.wf_i64 (by omega)
  have hkt : Try.prog.keyType 24 = true := by kernel_rfl
  have hco : Try.prog.cellsOf 24 = 2 := by kernel_rfl
  have hci : Try.prog.cellsOf 3 = 1 := by kernel_rfl
  obtain ⟨m, hm⟩ : ∃ m, Try.prog.types.size = m + 1 := ⟨Try.prog.types.size - 1, by kernel_rfl⟩
  unfold keyOf kvP
  simp only [Try.underlying24]
  rw [if_pos (by simp [hkt, Value.formed, Try.underlying24, hco]), hm]
  unfold Program.keyLits
  simp only [Try.underlying24, Value.cells]
  rw [if_pos ⟨by rw [hco]; rfl, by kernel_rfl⟩]
  simp [hci, Program.keyLits, Try.underlying3, wp, wq, klP]
theorem klP_inj {p q : Int × Int} (h : okP p = true) (h' : okP q = true) (e : klP p = klP q) : p = q := by
  have := plK.inj (pl_lit h) (by rw [pl_lit h', e])
  simp only [kvP, Value.agg.injEq, Array.mk.injEq, List.cons.injEq, Value.int.injEq, true_and, and_true] at this
  exact Prod.ext this.1 this.2
theorem okM_pl {m : M3} (h : okM m = true) : okP m.2 = true := by
  unfold okM at h
  rw [Bool.and_eq_true] at h
  exact h.2
/-- Block B is the set of the places of l. -/
def SetQ (w : World) (B n : Nat) (l : List M3) : Prop := SetB w 24 B n (fun z => ∃ m ∈ l, z = klP m.2)
theorem SetQ.look {w : World} {B n : Nat} {l : List M3} (h : SetQ w B n l) (ok : ∀ m ∈ l, okM m = true) {p : Int × Int} (hp : okP p = true) {b : Bool} (hb : hasP l p = b) :
    (Instr.lookup 65 (.map (some B)) (.agg #[.int .i64 p.1, .int .i64 p.2]) false).run Try.prog w = .ok (.bool b) w := by
  refine SetB.look h plK Try.underlying65 (pl_lit hp) ?_
  rw [← hb, hasP_iff]
  constructor
  · rintro ⟨m, hm, e⟩
    exact ⟨m, hm, by rw [e]⟩
  · rintro ⟨m, hm, e⟩
    exact ⟨m, hm, (klP_inj hp (okM_pl (ok m hm)) e).symm⟩
theorem wpList_putQ {ops : Array Oper} {rest : List Oper} {o : Oper} {a : Act} {Z : Exit → Act → World → Prop} (w : World) (hg : o.guard = none) (m x v : Operand) (hop : o.op = Op.mapUpdate 65 m x v)
    (B n : Nat) (l : List M3) (hm : a.eval m = .map (some B)) (h : SetQ w B n l) (hn : n < 100000) (y : M3) (hy : okP y.2 = true) (hx : a.eval x = .agg #[.int .i64 y.2.1, .int .i64 y.2.2]) (hv : a.eval v = .bool true)
    (hK : ∀ w', SetQ w' B (n + 1) (l ++ [y]) → w.grownBy w' (some B) → wpList Try.prog ops Z rest (a.put o.dst undef) w') : wpList Try.prog ops Z (o :: rest) a w :=
  wpList_setPut w hg m x v _ hop _ plK Try.underlying65 B n _ hm h (by unfold maxLen; omega) _ _ hx hv (pl_lit hy) fun w' h1 h2 =>
    hK w' (h1.congr fun z => by
      constructor
      · rintro (h | ⟨m, h, e⟩)
        · exact ⟨y, by simp, h⟩
        · exact ⟨m, by simp [h], e⟩
      · rintro ⟨m, h, e⟩
        rcases List.mem_append.1 h with h | h
        · exact .inr ⟨m, h, e⟩
        · simp at h; subst h; exact .inl e) h2
theorem below_grown {w a b : World} {B : Nat} (h : Below w.heap.size w a) (hg : a.grownBy b (some B)) (hB : w.heap.size ≤ B) : Below w.heap.size w b :=
  ⟨hg.os.trans h.os, hg.tape.trans h.tape, hg.output.trans h.output, Nat.le_trans h.size hg.size, fun k hk => (hg.block k (by have := h.size; omega) (by simp; omega)).trans (h.block k hk)⟩
theorem compare_any (x y : M3) (w : World) :
    Calls Try.prog 44 #[.agg #[.int .i64 x.1, .int .i64 x.2.1, .int .i64 x.2.2], .agg #[.int .i64 y.1, .int .i64 y.2.1, .int .i64 y.2.2]] w fun e w' => e = .returned (.int .i64 (cmpM x y)) ∧ Below w.heap.size w w' :=
  (FreeD.compare_laid x y w).mono fun _ _ ⟨h1, h2⟩ => ⟨h1, h2.b⟩
theorem cmpM_b {x y : M3} {b : Bool} (h : ltM x y = b) : decide (cmpM x y ≥ 0) = !b := by
  have h1 : cmpM x y < 0 ↔ ltM x y = true := by
    unfold cmpM orI cmpI ltM
    rw [decide_eq_true_eq]
    (repeat' split) <;> omega
  cases b with
  | true => exact decide_eq_false (by have := h1.2 h; omega)
  | false =>
    refine decide_eq_true ?_
    rcases Int.lt_or_le (cmpM x y) 0 with h2 | h2
    · rw [h1.1 h2] at h; cases h
    · exact h2

set_option maxRecDepth 100000 in
set_option maxHeartbeats 2000000 in
theorem Check_any (A : Option Addr) (c : Nat) (l : List M3) (w : World) (ha : SR mapE w A l) (la : l.length ≤ 1000) {z : Int} {n : Nat} (h : chkM l = (z, n)) :
    Calls Try.prog 12 #[.slice A l.length c] w fun e w' => e = .returned (.tuple #[.int .i64 z, .int .i64 n]) ∧ Below w.heap.size w w' := by
  have HA := Lib.hid ha
  have HZ := Lib.hid h
  clear ha h
  have hmm := @run_makeMap Try.prog
  go_enter Try.func12, Try.ntmps12
  go_wp2
  go_loopw [10] (fun i wr => ∃ k : Nat, k ≤ l.length ∧ i = .int .i64 k ∧ Hid (chkM l = chkG (l.take k) (l.drop k)) ∧ Hid (∀ m ∈ l.take k, okM m = true) ∧ Hid (SetQ wr w.heap.size k (l.take k)) ∧ Below w.heap.size w wr ∧ w.heap.size < wr.heap.size) (fun i _ => l.length - (intOf i).toNat)
  case atStart => exact ⟨0, by omega, rfl, by show _ = _; simp [chkM], by show ∀ m ∈ _, _; simp, (SetB.new_ w _).congr fun z => by simp, (by repeat' (first | with_reducible exact Below.refl _ _ | with_reducible assumption | with_reducible apply Below.drew | with_reducible apply below_drewN | with_reducible apply Below.alloc | with_reducible apply Below.setCell | (with_reducible refine Below.trans ?_ (Below.mono (by assumption) ?_)) | (simp; done) | (simp; omega) | omega | with_reducible apply le_size_alloc | with_reducible apply le_size_drewN | with_reducible apply le_size_drew | with_reducible apply le_size_setCell | refine Nat.le_trans ?_ (Below.size (by assumption)))), by simp⟩
  case round =>
    obtain ⟨k, hk, rfl, HR, HO, HS, hbw, hBl⟩ := hrel
    by_cases hlt : k < l.length
    · obtain ⟨b, off, x, rfl, hbl, hx, q0, q1, q2⟩ := map_at (HA.out.ext hbw) hlt
      have i1 : (k : Int) < l.length := by omega
      have HR' := HR.out
      rw [chkG_at hx, HZ.out] at HR'
      have hts := take_snoc hx
      have HX := Lib.hid hx
      cases d1 : decide (0 ≤ x.1 ∧ x.1 < 256) with
      | false =>
        have hok : okM x = false := by simp [okM, d1]
        rw [hok, if_neg (by simp)] at HR'
        obtain ⟨rfl, rfl⟩ := Prod.mk.inj HR'
        clear HR' HR hx hts
        go_wp2_with (first | (go_at_call 42; with_reducible refine (isFrame_b _ _ d1 _).mono ?_; rintro e w' ⟨rfl, rfl⟩))
        refine bodyPost_ret (v := .tuple #[.int .i64 2, .int .i64 n]) (by simp [results, Try.results12, go_sem]) rfl ?_
        exact ⟨rfl, (by repeat' (first | with_reducible exact Below.refl _ _ | with_reducible assumption | with_reducible apply Below.drew | with_reducible apply below_drewN | with_reducible apply Below.alloc | with_reducible apply Below.setCell | (with_reducible refine Below.trans ?_ (Below.mono (by assumption) ?_)) | (simp; done) | (simp; omega) | omega | with_reducible apply le_size_alloc | with_reducible apply le_size_drewN | with_reducible apply le_size_drew | with_reducible apply le_size_setCell | refine Nat.le_trans ?_ (Below.size (by assumption))))⟩
      | true =>
        cases d2 : okP x.2 with
        | false =>
          have hok : okM x = false := by simp [okM, d1, d2]
          rw [hok, if_neg (by simp)] at HR'
          obtain ⟨rfl, rfl⟩ := Prod.mk.inj HR'
          clear HR' HR hx hts
          go_wp2_with (first | (go_at_call 42; with_reducible refine (isFrame_b _ _ d1 _).mono ?_; rintro e w' ⟨rfl, rfl⟩) | (go_at_call 43; with_reducible refine (isPlace_b _ _ _ d2 _).mono ?_; rintro e w' ⟨rfl, rfl⟩))
          refine bodyPost_ret (v := .tuple #[.int .i64 2, .int .i64 n]) (by simp [results, Try.results12, go_sem]) rfl ?_
          exact ⟨rfl, (by repeat' (first | with_reducible exact Below.refl _ _ | with_reducible assumption | with_reducible apply Below.drew | with_reducible apply below_drewN | with_reducible apply Below.alloc | with_reducible apply Below.setCell | (with_reducible refine Below.trans ?_ (Below.mono (by assumption) ?_)) | (simp; done) | (simp; omega) | omega | with_reducible apply le_size_alloc | with_reducible apply le_size_drewN | with_reducible apply le_size_drew | with_reducible apply le_size_setCell | refine Nat.le_trans ?_ (Below.size (by assumption))))⟩
        | true =>
          have hok : okM x = true := by simp [okM, d1, d2]
          rw [if_pos hok] at HR'
          have HOK := Lib.hid hok
          have HR2 := Lib.hid HR'
          clear HR' HR
          clear hok
          obtain ⟨W1, hW1⟩ : ∃ W1, wr.alloc (.cells #[.int .i64 x.1, .int .i64 x.2.1, .int .i64 x.2.2] 59) = W1 := ⟨_, rfl⟩
          have BW1 : Below wr.heap.size wr W1 := by rw [← hW1]; exact (by repeat' (first | with_reducible exact Below.refl _ _ | with_reducible assumption | with_reducible apply Below.drew | with_reducible apply below_drewN | with_reducible apply Below.alloc | with_reducible apply Below.setCell | (with_reducible refine Below.trans ?_ (Below.mono (by assumption) ?_)) | (simp; done) | (simp; omega) | omega | with_reducible apply le_size_alloc | with_reducible apply le_size_drewN | with_reducible apply le_size_drew | with_reducible apply le_size_setCell | refine Nat.le_trans ?_ (Below.size (by assumption))))
          have kW1 : Blk W1 wr.heap.size 59 #[.int .i64 x.1, .int .i64 x.2.1, .int .i64 x.2.2] := by rw [← hW1]; exact Blk.new_ rfl rfl
          have hs1 : W1.heap.size = wr.heap.size + 1 := by rw [← hW1]; simp
          obtain ⟨W2, hW2⟩ : ∃ W2, W1.alloc (.cells #[.int .i64 x.2.1, .int .i64 x.2.2] 24) = W2 := ⟨_, rfl⟩
          have BW2 : Below wr.heap.size wr W2 := by rw [← hW2]; exact BW1.alloc (by omega) _
          have kW2 : Blk W2 wr.heap.size 59 #[.int .i64 x.1, .int .i64 x.2.1, .int .i64 x.2.2] := by rw [← hW2]; exact kW1.alloc_ _
          have hs2 : W2.heap.size = wr.heap.size + 2 := by rw [← hW2]; simp; omega
          have m0 := kW1.cell_ 0
          have m1 := kW1.cell_ 1
          have m2 := kW1.cell_ 2
          simp at m0 m1 m2
          have HTS := Lib.hid hts
          clear hts hx
          by_cases hk0 : 0 < k
          · have g0 : (0 : Int) < k := by omega
            obtain ⟨b', off', y, e', hby, hy, v0, v1, v2⟩ := map_at ((HA.out.ext hbw).ext BW2) (show k - 1 < l.length by omega)
            injection e' with e'
            injection e' with e1 e2 e3
            subst e1 e2
            have HB0 : Hid (befL (l.take k) x = ltM y x) := by
              show _ = _
              have := befL_at (x := x) hy
              rw [show k - 1 + 1 = k by omega] at this
              exact this
            obtain ⟨b0, hb00⟩ : ∃ b0, ltM y x = b0 := ⟨_, rfl⟩
            have hge := cmpM_b hb00
            have HB : Hid (befL (l.take k) x = b0) := by show _ = _; rw [HB0.out, hb00]
            have hb2 : b < W2.heap.size := hby
            have hb3 : wr.heap.size < W2.heap.size := kW2.lt
            have u0 : W2.cell? ⟨wr.heap.size, 0, none⟩ = some (.int .i64 x.1) := by simpa using kW2.cell_ 0
            have u1 : W2.cell? ⟨wr.heap.size, 1, none⟩ = some (.int .i64 x.2.1) := by simpa using kW2.cell_ 1
            have u2 : W2.cell? ⟨wr.heap.size, 2, none⟩ = some (.int .i64 x.2.2) := by simpa using kW2.cell_ 2
            have k1 : ((k : Int) - 1).toNat = k - 1 := by omega
            have k2 : (0 : Int) ≤ (k : Int) - 1 := by omega
            have k3 : (k : Int) - 1 < l.length := by omega
            have k5 : (1 : Int) ≤ k := by omega
            have k4 : IntKind.i64.wrap ((k : Int) - 1) = (k : Int) - 1 := IntWalk.i64_in _ (by omega)
            clear hy hb00 hk0 HB0
            go_wp2_with (first | (go_at_call 42; with_reducible refine (isFrame_b _ _ d1 _).mono ?_; rintro e w' ⟨rfl, rfl⟩) | (go_at_call 43; with_reducible refine (isPlace_b _ _ _ d2 _).mono ?_; rintro e w' ⟨rfl, rfl⟩))
            refine wp_region_chain [.is ?fq0, .is (.bool true), .is ?fq2, .is ?fq3, .is ?fq4, .is (.int .i64 ((k : Int) - 1)), .is ?fq6, .is ?fq7, .is ?fq8, .is (.int .i64 (cmpM y x)), .is (.bool (!b0)), .is ?fq11, .is ?fq12] (by kernel_rfl) (by kernel_rfl) (by kernel_rfl) (lasts_is (lasts_is (lasts_is (lasts_is (lasts_is (lasts_is (lasts_is (lasts_is (lasts_is (lasts_is (lasts_is (lasts_is (lasts_is lasts_nil))))))))))))) (fun W0 hb0 hz0 => ?_)
            rotate_left 9
            refine chain_is (step_take (by rfl) ?yq0) ?rq0
            case yq0 =>
              intro w hbw hd
              clear hd
              go_simp
              first | done | with_reducible rfl
            (try simp only [Act.put, List.setIfInBounds_toArray, List.set_cons_zero, List.set_cons_succ, List.nil_append, List.cons_append])
            refine chain_is (step_take (by rfl) ?yq1) ?rq1
            case yq1 =>
              intro w hbw hd
              clear hd
              go_simp
              first | done | with_reducible rfl | omega
            (try simp only [Act.put, List.setIfInBounds_toArray, List.set_cons_zero, List.set_cons_succ, List.nil_append, List.cons_append])
            refine chain_is (step_take (by rfl) ?yq2) ?rq2
            case yq2 =>
              intro w hbw hd
              clear hd
              go_simp
              first | done | with_reducible rfl
            (try simp only [Act.put, List.setIfInBounds_toArray, List.set_cons_zero, List.set_cons_succ, List.nil_append, List.cons_append])
            refine chain_is (step_take (by rfl) ?yq3) ?rq3
            case yq3 =>
              intro w hbw hd
              clear hd
              go_simp
              first | done | with_reducible rfl
            (try simp only [Act.put, List.setIfInBounds_toArray, List.set_cons_zero, List.set_cons_succ, List.nil_append, List.cons_append])
            refine chain_is (step_take (by rfl) ?yq4) ?rq4
            case yq4 =>
              intro w hbw hd
              clear hd
              go_simp
              first | done | with_reducible rfl
            (try simp only [Act.put, List.setIfInBounds_toArray, List.set_cons_zero, List.set_cons_succ, List.nil_append, List.cons_append])
            refine chain_is (step_take (by rfl) ?yq5) ?rq5
            case yq5 =>
              intro w hbw hd
              clear hd
              go_simp
              first | done | with_reducible rfl
            (try simp only [Act.put, List.setIfInBounds_toArray, List.set_cons_zero, List.set_cons_succ, List.nil_append, List.cons_append])
            refine chain_is (step_take (by rfl) ?yq6) ?rq6
            case yq6 =>
              intro w hbw hd
              clear hd
              go_simp
              first | done | with_reducible rfl
            (try simp only [Act.put, List.setIfInBounds_toArray, List.set_cons_zero, List.set_cons_succ, List.nil_append, List.cons_append])
            refine chain_is (step_take (by rfl) ?yq7) ?rq7
            case yq7 =>
              intro w hbw hd
              have e0 := cell_keep (hb0.trans (hbw.mono hb0.size)) v0 hb2
              have e1 := cell_keep (hb0.trans (hbw.mono hb0.size)) v1 hb2
              have e2 := cell_keep (hb0.trans (hbw.mono hb0.size)) v2 hb2
              clear hd
              go_simp
              first | done | with_reducible rfl
            (try simp only [Act.put, List.setIfInBounds_toArray, List.set_cons_zero, List.set_cons_succ, List.nil_append, List.cons_append])
            refine chain_is (step_take (by rfl) ?yq8) ?rq8
            case yq8 =>
              intro w hbw hd
              have e0 := cell_keep (hb0.trans (hbw.mono hb0.size)) u0 hb3
              have e1 := cell_keep (hb0.trans (hbw.mono hb0.size)) u1 hb3
              have e2 := cell_keep (hb0.trans (hbw.mono hb0.size)) u2 hb3
              clear hd
              go_simp
              first | done | with_reducible rfl
            (try simp only [Act.put, List.setIfInBounds_toArray, List.set_cons_zero, List.set_cons_succ, List.nil_append, List.cons_append])
            refine chain_is ?sq9 ?rq9
            case sq9 =>
              intro w hbw hd K Q' hK
              clear hd
              go_simp
              refine (compare_any y x _).mono ?_
              rintro e x1 ⟨rfl, hx1⟩
              go_wp2_with fail
              refine hK.out (.int .i64 (cmpM y x)) _ _ ?_ ?_ rfl
              · (simp only [Act.put, List.setIfInBounds_toArray, List.set_cons_zero, List.set_cons_succ, List.nil_append, List.cons_append])
              · exact (by repeat' (first | with_reducible exact Below.refl _ _ | with_reducible assumption | with_reducible apply Below.drew | with_reducible apply below_drewN | with_reducible apply Below.alloc | with_reducible apply Below.setCell | (with_reducible refine Below.trans ?_ (Below.mono (by assumption) ?_)) | (simp; done) | (simp; omega) | omega | with_reducible apply le_size_alloc | with_reducible apply le_size_drewN | with_reducible apply le_size_drew | with_reducible apply le_size_setCell | with_reducible refine Nat.le_trans ?_ (Below.size (by assumption))))
            (try simp only [Act.put, List.setIfInBounds_toArray, List.set_cons_zero, List.set_cons_succ, List.nil_append, List.cons_append])
            refine chain_is (step_take (by rfl) ?yq10) ?rq10
            case yq10 =>
              intro w hbw hd
              clear hd
              go_simp
              first | done | with_reducible rfl
            (try simp only [Act.put, List.setIfInBounds_toArray, List.set_cons_zero, List.set_cons_succ, List.nil_append, List.cons_append])
            refine chain_is (step_take (by rfl) ?yq11) ?rq11
            case yq11 =>
              intro w hbw hd
              clear hd
              go_simp
              first | done | with_reducible rfl
            (try simp only [Act.put, List.setIfInBounds_toArray, List.set_cons_zero, List.set_cons_succ, List.nil_append, List.cons_append])
            refine chain_is (step_take (by rfl) ?yq12) ?rq12
            case yq12 =>
              intro w hbw hd
              clear hd
              go_simp
              first | done | with_reducible rfl
            (try simp only [Act.put, List.setIfInBounds_toArray, List.set_cons_zero, List.set_cons_succ, List.nil_append, List.cons_append])
            refine chain_end (fun wz hbz hd => ?_)
            cases b0 with
            | false =>
              have hz := HR2.out
              rw [HB.out, if_neg (by simp)] at hz
              obtain ⟨rfl, rfl⟩ := Prod.mk.inj hz
              clear hz HR2
              go_wp2_with fail
              refine bodyPost_ret (v := .tuple #[.int .i64 8, .int .i64 n]) (by simp [results, Try.results12, go_sem]) rfl ?_
              exact ⟨rfl, ((hbw.trans (BW2.mono hbw.size)).trans ((hb0.trans (hbz.mono hb0.size)).mono (by omega)))⟩
            | true =>
              have zs := ((hb0.trans (hbz.mono hb0.size))).size
              have r0 : wz.cell? ⟨wr.heap.size, 0, none⟩ = some (.int .i64 x.1) := by simpa using (kW2.below_ (hb0.trans (hbz.mono hb0.size)) kW2.lt).cell_ 0
              have r1 : wz.cell? ⟨wr.heap.size, 1, none⟩ = some (.int .i64 x.2.1) := by simpa using (kW2.below_ (hb0.trans (hbz.mono hb0.size)) kW2.lt).cell_ 1
              have r2 : wz.cell? ⟨wr.heap.size, 2, none⟩ = some (.int .i64 x.2.2) := by simpa using (kW2.below_ (hb0.trans (hbz.mono hb0.size)) kW2.lt).cell_ 2
              have BZ : Below w.heap.size w wz := (hbw.trans (BW2.mono hbw.size)).trans (((hb0.trans (hbz.mono hb0.size))).mono (by omega))
              have SZ : SetQ wz w.heap.size k (l.take k) := HS.out.below_ (C := wr.heap.size) (BW2.trans (((hb0.trans (hbz.mono hb0.size))).mono (by omega))) hBl
              cases hp : hasP (l.take k) x.2 with
              | true =>
                have hlk := SZ.look HO.out d2 hp
                have hz := HR2.out
                rw [HB.out, if_pos rfl, hp, if_pos rfl] at hz
                obtain ⟨rfl, rfl⟩ := Prod.mk.inj hz
                clear hz HR2
                go_wp2_with fail
                refine bodyPost_ret (v := .tuple #[.int .i64 7, .int .i64 n]) (by simp [results, Try.results12, go_sem]) rfl ?_
                exact ⟨rfl, BZ⟩
              | false =>
                have hlk := SZ.look HO.out d2 hp
                have hz := HR2.out
                rw [HB.out, if_pos rfl, hp, if_neg (by simp)] at hz
                have HN : Hid (chkM l = chkG (l.take (k + 1)) (l.drop (k + 1))) := by show _ = _; rw [HZ.out]; exact hz
                clear hz HR2
                go_wp2_with (at_mapUpdate; refine wpList_putQ _ rfl _ _ _ rfl w.heap.size k (l.take k) rfl ?_ (by omega) x d2 rfl rfl ?_; (exact SZ); intro w5 hs5 hg5)
                have zg := hg5.size
                go_roundw
                case rel =>
                  refine ⟨k + 1, by omega, by go_num, HN.out, ?_, ?_, below_grown BZ hg5 (Nat.le_refl _), by omega⟩
                  · show ∀ m ∈ _, _
                    rw [HTS.out]
                    intro m hm
                    rcases List.mem_append.1 hm with h | h
                    · exact HO.out m h
                    · simp at h; subst h; exact HOK.out
                  · show SetQ _ _ _ _
                    rw [HTS.out]
                    exact hs5
                case measure => simp [intOf]; omega
          · have kz : k = 0 := by omega
            have g0 : ¬ (0 : Int) < k := by omega
            have HB : Hid (befL (l.take k) x = true) := by show _ = _; rw [kz]; exact befL_zero l x
            have KZ := Lib.hid kz
            clear kz hk0
            go_wp2_with (first | (go_at_call 42; with_reducible refine (isFrame_b _ _ d1 _).mono ?_; rintro e w' ⟨rfl, rfl⟩) | (go_at_call 43; with_reducible refine (isPlace_b _ _ _ d2 _).mono ?_; rintro e w' ⟨rfl, rfl⟩))
            refine wp_region_chain [.is ?fp0, .is (.bool false), .is ?fp2, .is undef, .is undef, .is undef, .is undef, .is undef, .is undef, .is undef, .is undef, .is ?fp11, .is ?fp12] (by kernel_rfl) (by kernel_rfl) (by kernel_rfl) (lasts_is (lasts_is (lasts_is (lasts_is (lasts_is (lasts_is (lasts_is (lasts_is (lasts_is (lasts_is (lasts_is (lasts_is (lasts_is lasts_nil))))))))))))) (fun W0 hb0 hz0 => ?_)
            rotate_left 4
            refine chain_is (step_take (by rfl) ?yp0) ?rp0
            case yp0 =>
              intro w hbw hd
              clear hd
              go_simp
              first | done | with_reducible rfl
            (try simp only [Act.put, List.setIfInBounds_toArray, List.set_cons_zero, List.set_cons_succ, List.nil_append, List.cons_append])
            refine chain_is (step_take (by rfl) ?yp1) ?rp1
            case yp1 =>
              intro w hbw hd
              clear hd
              go_simp
              first | done | with_reducible rfl | omega
            (try simp only [Act.put, List.setIfInBounds_toArray, List.set_cons_zero, List.set_cons_succ, List.nil_append, List.cons_append])
            refine chain_is (step_take (by rfl) ?yp2) ?rp2
            case yp2 =>
              intro w hbw hd
              clear hd
              go_simp
              first | done | with_reducible rfl
            (try simp only [Act.put, List.setIfInBounds_toArray, List.set_cons_zero, List.set_cons_succ, List.nil_append, List.cons_append])
            refine chain_is (step_un (by rfl)) ?rp3
            (try simp only [Act.put, List.setIfInBounds_toArray, List.set_cons_zero, List.set_cons_succ, List.nil_append, List.cons_append])
            refine chain_is (step_un (by rfl)) ?rp4
            (try simp only [Act.put, List.setIfInBounds_toArray, List.set_cons_zero, List.set_cons_succ, List.nil_append, List.cons_append])
            refine chain_is (step_un (by rfl)) ?rp5
            (try simp only [Act.put, List.setIfInBounds_toArray, List.set_cons_zero, List.set_cons_succ, List.nil_append, List.cons_append])
            refine chain_is (step_un (by rfl)) ?rp6
            (try simp only [Act.put, List.setIfInBounds_toArray, List.set_cons_zero, List.set_cons_succ, List.nil_append, List.cons_append])
            refine chain_is (step_un (by rfl)) ?rp7
            (try simp only [Act.put, List.setIfInBounds_toArray, List.set_cons_zero, List.set_cons_succ, List.nil_append, List.cons_append])
            refine chain_is (step_un (by rfl)) ?rp8
            (try simp only [Act.put, List.setIfInBounds_toArray, List.set_cons_zero, List.set_cons_succ, List.nil_append, List.cons_append])
            refine chain_is (step_un (by rfl)) ?rp9
            (try simp only [Act.put, List.setIfInBounds_toArray, List.set_cons_zero, List.set_cons_succ, List.nil_append, List.cons_append])
            refine chain_is (step_un (by rfl)) ?rp10
            (try simp only [Act.put, List.setIfInBounds_toArray, List.set_cons_zero, List.set_cons_succ, List.nil_append, List.cons_append])
            refine chain_is (step_take (by rfl) ?yp11) ?rp11
            case yp11 =>
              intro w hbw hd
              clear hd
              go_simp
              first | done | with_reducible rfl
            (try simp only [Act.put, List.setIfInBounds_toArray, List.set_cons_zero, List.set_cons_succ, List.nil_append, List.cons_append])
            refine chain_is (step_take (by rfl) ?yp12) ?rp12
            case yp12 =>
              intro w hbw hd
              clear hd
              go_simp
              first | done | with_reducible rfl
            (try simp only [Act.put, List.setIfInBounds_toArray, List.set_cons_zero, List.set_cons_succ, List.nil_append, List.cons_append])
            refine chain_end (fun wz hbz hd => ?_)
            have zs := ((hb0.trans (hbz.mono hb0.size))).size
            have r0 : wz.cell? ⟨wr.heap.size, 0, none⟩ = some (.int .i64 x.1) := by simpa using (kW2.below_ (hb0.trans (hbz.mono hb0.size)) kW2.lt).cell_ 0
            have r1 : wz.cell? ⟨wr.heap.size, 1, none⟩ = some (.int .i64 x.2.1) := by simpa using (kW2.below_ (hb0.trans (hbz.mono hb0.size)) kW2.lt).cell_ 1
            have r2 : wz.cell? ⟨wr.heap.size, 2, none⟩ = some (.int .i64 x.2.2) := by simpa using (kW2.below_ (hb0.trans (hbz.mono hb0.size)) kW2.lt).cell_ 2
            have BZ : Below w.heap.size w wz := (hbw.trans (BW2.mono hbw.size)).trans (((hb0.trans (hbz.mono hb0.size))).mono (by omega))
            have SZ : SetQ wz w.heap.size k (l.take k) := HS.out.below_ (C := wr.heap.size) (BW2.trans (((hb0.trans (hbz.mono hb0.size))).mono (by omega))) hBl
            cases hp : hasP (l.take k) x.2 with
            | true =>
              have hlk := SZ.look HO.out d2 hp
              have hz := HR2.out
              rw [HB.out, if_pos rfl, hp, if_pos rfl] at hz
              obtain ⟨rfl, rfl⟩ := Prod.mk.inj hz
              clear hz HR2
              go_wp2_with fail
              refine bodyPost_ret (v := .tuple #[.int .i64 7, .int .i64 n]) (by simp [results, Try.results12, go_sem]) rfl ?_
              exact ⟨rfl, BZ⟩
            | false =>
              have hlk := SZ.look HO.out d2 hp
              have hz := HR2.out
              rw [HB.out, if_pos rfl, hp, if_neg (by simp)] at hz
              have HN : Hid (chkM l = chkG (l.take (k + 1)) (l.drop (k + 1))) := by show _ = _; rw [HZ.out]; exact hz
              clear hz HR2
              go_wp2_with (at_mapUpdate; refine wpList_putQ _ rfl _ _ _ rfl w.heap.size k (l.take k) rfl ?_ (by omega) x d2 rfl rfl ?_; (exact SZ); intro w5 hs5 hg5)
              have zg := hg5.size
              go_roundw
              case rel =>
                refine ⟨k + 1, by omega, by go_num, HN.out, ?_, ?_, below_grown BZ hg5 (Nat.le_refl _), by omega⟩
                · show ∀ m ∈ _, _
                  rw [HTS.out]
                  intro m hm
                  rcases List.mem_append.1 hm with h | h
                  · exact HO.out m h
                  · simp at h; subst h; exact HOK.out
                · show SetQ _ _ _ _
                  rw [HTS.out]
                  exact hs5
              case measure => simp [intOf]; omega
    · have hd : l.drop k = [] := List.drop_eq_nil_of_le (by omega)
      have h1 := HR.out
      rw [hd, HZ.out] at h1
      have h2 : (z, n) = (0, 0) := h1
      obtain ⟨rfl, rfl⟩ := Prod.mk.inj h2
      clear h1 h2 hd HR
      go_wp2
      refine bodyPost_ret (v := .tuple #[.int .i64 0, .int .i64 (0 : Nat)]) (by simp [results, Try.results12, go_sem]) rfl ?_
      exact ⟨rfl, (by repeat' (first | with_reducible exact Below.refl _ _ | with_reducible assumption | with_reducible apply Below.drew | with_reducible apply below_drewN | with_reducible apply Below.alloc | with_reducible apply Below.setCell | (with_reducible refine Below.trans ?_ (Below.mono (by assumption) ?_)) | (simp; done) | (simp; omega) | omega | with_reducible apply le_size_alloc | with_reducible apply le_size_drewN | with_reducible apply le_size_drew | with_reducible apply le_size_setCell | refine Nat.le_trans ?_ (Below.size (by assumption))))⟩
end Go.Proofs.Ytbeddhamnefpiaa
