/- headgateref25: put, Add, Find, Remove. Written by gen_rr2.py. -/
import Derived.Test.YtbeddhamnefpiaaRR1
import Derived.Deep.RegionHeld3
import Derived.Deep.DeepCutAuto
namespace Go.Proofs.Ytbeddhamnefpiaa
set_option linter.unusedSimpArgs false
set_option linter.unusedVariables false
open Go.RowKit Go.Maps

theorem step_appR {P : Program} {α : Type} (E : Elt P α) {ops : Array Oper} {o : Oper} {a : Act} {K : Act → World → Prop} {Q : Exit → Act → World → Prop} {E' : Prop} (hgd : o.guard = none) (s x : Operand) (t : TypeId) (ht : t = E.s)
    (ho : o.op = .call { callee := .builtin .append, args := #[s, x], argTypes := #[t, t] })
    (w : World) (base : Nat) (hbase : base ≤ w.heap.size) (A : Option Addr) (c n : Nat) (l : List α) (hn : n = l.length) (h : CanR E w base A c l) (B : Option Addr) (d n' : Nat) (k : List α) (hn' : n' = k.length) (hk : SR E w B k) (hl : l.length + k.length ≤ 10000)
    (hs : a.eval s = .slice A n c) (hx : a.eval x = .slice B n' d)
    (hK : ∀ A' c' w' m, Hid (m = (l ++ k).length) → CanR E w' base A' c' (l ++ k) → Below base w w' → K (a.put o.dst (.slice A' m c')) w') :
    if Region.wanted o (yielded ops a.tmps) = true then Oper.wp P o a w K Q else E' := by
  subst hn hn' ht
  have hw : Region.wanted o (yielded ops a.tmps) = true := by simp [Region.wanted, hgd]
  rw [if_pos hw]
  obtain ⟨A', c', w', hrun, h2, h3, _⟩ := run_appR E o.type w base hbase A c l h B d k hk hl
  unfold Oper.wp execOp
  simp only [ho, resolve, invoke, builtin, Sem.run_bind, Sem.run_pure, Result.andThen_ok, List.map_toArray, List.map_cons, List.map_nil, hs, hx, hrun]
  exact hK A' c' w' _ rfl h2 h3
theorem putM_at {l : List M3} {x : M3} {k : Nat} (h1 : ∀ m ∈ l.take k, ltM m x = true) (h2 : ∀ y, l[k]? = some y → ltM y x = false) : putM l x = l.take k ++ x :: l.drop k := by
  have ht : l.takeWhile (fun y => ltM y x) = l.take k := by
    conv => lhs; rw [← List.take_append_drop k l]
    rw [List.takeWhile_append_of_pos h1]
    cases hd : l.drop k with
    | nil => simp
    | cons y t =>
      have : l[k]? = some y := by
        have := List.getElem?_drop (xs := l) (i := k) (j := 0)
        rw [hd] at this
        simpa using this.symm
      simp [h2 y this]
  have hd : l.dropWhile (fun y => ltM y x) = l.drop k := by
    have h3 := List.takeWhile_append_dropWhile (p := fun y => ltM y x) (l := l)
    rw [ht] at h3
    conv at h3 => rhs; rw [← List.take_append_drop k l]
    exact List.append_cancel_left h3
  unfold putM
  rw [ht, hd]
theorem SR.oneM {w : World} {b : Nat} {t : TypeId} {x : M3} (h : Blk w b t #[.int .i64 x.1, .int .i64 x.2.1, .int .i64 x.2.2]) : SR mapE w (some ⟨b, 0, none⟩) [x] := SR.of_blk (E := mapE) (l := [x]) h
theorem mono2 {B B' : Nat} {a b : World} (h : Below B a b) (hb : B' ≤ B) : Below B' a b ∧ B' ≤ B := ⟨h.mono hb, hb⟩
theorem heldX {w W : World} {b : Nat} {u0 u1 u2 : Value} (h : Below w.heap.size w W) (c0 : w.cell? ⟨b, 0, none⟩ = some u0) (c1 : w.cell? ⟨b, 1, none⟩ = some u1) (c2 : w.cell? ⟨b, 2, none⟩ = some u2) (hb : b < w.heap.size) :
    Below w.heap.size w W ∧ W.cell? ⟨b, 0, none⟩ = some u0 ∧ W.cell? ⟨b, 1, none⟩ = some u1 ∧ W.cell? ⟨b, 2, none⟩ = some u2 := ⟨h, cell_keep h c0 hb, cell_keep h c1 hb, cell_keep h c2 hb⟩

set_option maxRecDepth 100000 in
set_option maxHeartbeats 4000000 in
theorem put_any (A0 : Option Addr) (c : Nat) (l : List M3) (x : M3) (w : World) (ha : CR mapE w A0 c l) (la : l.length ≤ 2000) :
    Calls Try.prog 58 #[.slice A0 l.length c, .agg #[.int .i64 x.1, .int .i64 x.2.1, .int .i64 x.2.2]] w (RowPost mapE (putM l x) w) := by
  have HA := Lib.hid ha
  have hcap := ha.2
  clear ha
  go_enter Try.func58, Try.ntmps58
  go_wp2
  obtain ⟨V, hV⟩ : ∃ V, w.alloc (.cells #[.int .i64 x.1, .int .i64 x.2.1, .int .i64 x.2.2] 59) = V := ⟨_, rfl⟩
  have BV : Below w.heap.size w V := by rw [← hV]; exact (by repeat' (first | with_reducible exact Below.refl _ _ | with_reducible assumption | with_reducible apply Below.drew | with_reducible apply below_drewN | with_reducible apply Below.alloc | with_reducible apply Below.setCell | (with_reducible refine Below.trans ?_ (Below.mono (by assumption) ?_)) | (simp; done) | (simp; omega) | omega | with_reducible apply le_size_alloc | with_reducible apply le_size_drewN | with_reducible apply le_size_drew | with_reducible apply le_size_setCell | refine Nat.le_trans ?_ (Below.size (by assumption))))
  have kV : Blk V w.heap.size 59 #[.int .i64 x.1, .int .i64 x.2.1, .int .i64 x.2.2] := by rw [← hV]; exact (by repeat' (first | with_reducible assumption | (with_reducible refine Blk.new_ ?_ ?_ <;> first | (simp; done) | rfl) | with_reducible apply Blk.drew_ | with_reducible apply Blk.drewN_ | with_reducible apply Blk.alloc_ | with_reducible refine Blk.far_ ?_ ?_ _ | (with_reducible refine Blk.below_ ?_ (by assumption) ?_) | (simp; done) | (simp; omega) | omega | with_reducible apply le_size_alloc | with_reducible apply lt_size_alloc | with_reducible apply le_size_drewN | with_reducible apply le_size_drew | with_reducible apply le_size_setCell | refine Nat.lt_of_lt_of_le ?_ (Below.size (by assumption)) | refine Nat.le_trans ?_ (Below.size (by assumption))))
  rw [hV]
  clear hV
  have hsz := BV.size
  have hlV := kV.lt
  go_loopw [5] (fun i wr => ∃ k : Nat, k ≤ l.length ∧ i = .int .i64 k ∧ Hid (∀ m ∈ l.take k, ltM m x = true) ∧ Below V.heap.size V wr) (fun i _ => l.length - (intOf i).toNat)
  case atStart => exact ⟨0, by omega, rfl, by show ∀ m ∈ _, _; simp, Below.refl _ _⟩
  case round =>
    obtain ⟨k, hk, rfl, HR, hbw⟩ := hrel
    have p0 : wr.cell? ⟨w.heap.size, 0, none⟩ = some (.int .i64 x.1) := by simpa using (kV.below_ hbw hlV).cell_ 0
    have p1 : wr.cell? ⟨w.heap.size, 1, none⟩ = some (.int .i64 x.2.1) := by simpa using (kV.below_ hbw hlV).cell_ 1
    have p2 : wr.cell? ⟨w.heap.size, 2, none⟩ = some (.int .i64 x.2.2) := by simpa using (kV.below_ hbw hlV).cell_ 2
    have hlw : w.heap.size < wr.heap.size := Nat.lt_of_lt_of_le hlV hbw.size
    by_cases hlt : k < l.length
    · obtain ⟨b, off, y, rfl, hbl, hy, q0, q1, q2⟩ := map_at ((HA.out.1.ext BV).ext hbw) hlt
      have i1 : (k : Int) < l.length := by omega
      obtain ⟨b0, hb00⟩ : ∃ b0, ltM y x = b0 := ⟨_, rfl⟩
      have HY : Hid (∀ z, l[k]? = some z → ltM z x = b0) := by show ∀ z, _; intro z hz; rw [hy] at hz; injection hz with hz; rw [← hz]; exact hb00
      have HTS : Hid (l.take (k + 1) = l.take k ++ [y]) := take_snoc hy
      clear hy
      go_wp2_with fail
      refine wp_region_chain [.is ?fq0, .is ?fq1, .is ?fq2, .is (.bool true), .is ?fq4, .is ?fq5, .is ?fq6, .is ?fq7, .is ?fq8, .is ?fq9, .is (.bool b0), .is ?fq11] (by kernel_rfl) (by kernel_rfl) (by kernel_rfl) (lasts_is (lasts_is (lasts_is (lasts_is (lasts_is (lasts_is (lasts_is (lasts_is (lasts_is (lasts_is (lasts_is (lasts_is lasts_nil)))))))))))) (fun W0 hb0 hz0 => ?_)
      rotate_left 10
      refine chain_is (step_take (by rfl) ?yq0) ?rq0
      case yq0 =>
        intro w hbw hd
        clear hd
        go_simp
        first | done | with_reducible rfl
      (try simp only [Act.put, List.setIfInBounds_toArray, List.set_cons_zero, List.set_cons_succ, List.nil_append, List.cons_append])
      refine chain_is (step_take (by rfl) ?yq1) ?rq1
      case yq1 =>
        intro w hbw hd
        clear hd
        go_simp
        first | done | with_reducible rfl
      (try simp only [Act.put, List.setIfInBounds_toArray, List.set_cons_zero, List.set_cons_succ, List.nil_append, List.cons_append])
      refine chain_is (step_take (by rfl) ?yq2) ?rq2
      case yq2 =>
        intro w hbw hd
        clear hd
        go_simp
        first | done | with_reducible rfl
      (try simp only [Act.put, List.setIfInBounds_toArray, List.set_cons_zero, List.set_cons_succ, List.nil_append, List.cons_append])
      refine chain_is (step_take (by rfl) ?yq3) ?rq3
      case yq3 =>
        intro w hbw hd
        clear hd
        go_simp
        first | done | with_reducible rfl | omega
      (try simp only [Act.put, List.setIfInBounds_toArray, List.set_cons_zero, List.set_cons_succ, List.nil_append, List.cons_append])
      refine chain_is (step_take (by rfl) ?yq4) ?rq4
      case yq4 =>
        intro w hbw hd
        clear hd
        go_simp
        first | done | with_reducible rfl
      (try simp only [Act.put, List.setIfInBounds_toArray, List.set_cons_zero, List.set_cons_succ, List.nil_append, List.cons_append])
      refine chain_is (step_take (by rfl) ?yq5) ?rq5
      case yq5 =>
        intro w hbw hd
        clear hd
        go_simp
        first | done | with_reducible rfl
      (try simp only [Act.put, List.setIfInBounds_toArray, List.set_cons_zero, List.set_cons_succ, List.nil_append, List.cons_append])
      refine chain_is (step_take (by rfl) ?yq6) ?rq6
      case yq6 =>
        intro w hbw hd
        clear hd
        go_simp
        first | done | with_reducible rfl
      (try simp only [Act.put, List.setIfInBounds_toArray, List.set_cons_zero, List.set_cons_succ, List.nil_append, List.cons_append])
      refine chain_is (step_take (by rfl) ?yq7) ?rq7
      case yq7 =>
        intro w hbw hd
        clear hd
        go_simp
        first | done | with_reducible rfl
      (try simp only [Act.put, List.setIfInBounds_toArray, List.set_cons_zero, List.set_cons_succ, List.nil_append, List.cons_append])
      refine chain_is (step_take (by rfl) ?yq8) ?rq8
      case yq8 =>
        intro w hbw hd
        have e0 := cell_keep (hb0.trans (hbw.mono hb0.size)) q0 hbl
        have e1 := cell_keep (hb0.trans (hbw.mono hb0.size)) q1 hbl
        have e2 := cell_keep (hb0.trans (hbw.mono hb0.size)) q2 hbl
        clear hd
        go_simp
        first | done | with_reducible rfl
      (try simp only [Act.put, List.setIfInBounds_toArray, List.set_cons_zero, List.set_cons_succ, List.nil_append, List.cons_append])
      refine chain_is (step_take (by rfl) ?yq9) ?rq9
      case yq9 =>
        intro w hbw hd
        have e0 := cell_keep (hb0.trans (hbw.mono hb0.size)) p0 hlw
        have e1 := cell_keep (hb0.trans (hbw.mono hb0.size)) p1 hlw
        have e2 := cell_keep (hb0.trans (hbw.mono hb0.size)) p2 hlw
        clear hd
        go_simp
        first | done | with_reducible rfl
      (try simp only [Act.put, List.setIfInBounds_toArray, List.set_cons_zero, List.set_cons_succ, List.nil_append, List.cons_append])
      refine chain_is ?sq10 ?rq10
      case sq10 =>
        intro w hbw hd K Q' hK
        clear hd
        go_simp
        refine (before_any y x _ hb00).mono ?_
        rintro e x1 ⟨rfl, hx1⟩
        go_wp2_with fail
        refine hK.out (.bool b0) _ _ ?_ ?_ rfl
        · (simp only [Act.put, List.setIfInBounds_toArray, List.set_cons_zero, List.set_cons_succ, List.nil_append, List.cons_append])
        · exact (by repeat' (first | with_reducible exact Below.refl _ _ | with_reducible assumption | with_reducible apply Below.drew | with_reducible apply below_drewN | with_reducible apply Below.alloc | with_reducible apply Below.setCell | (with_reducible refine Below.trans ?_ (Below.mono (by assumption) ?_)) | (simp; done) | (simp; omega) | omega | with_reducible apply le_size_alloc | with_reducible apply le_size_drewN | with_reducible apply le_size_drew | with_reducible apply le_size_setCell | with_reducible refine Nat.le_trans ?_ (Below.size (by assumption))))
      (try simp only [Act.put, List.setIfInBounds_toArray, List.set_cons_zero, List.set_cons_succ, List.nil_append, List.cons_append])
      refine chain_is (step_take (by rfl) ?yq11) ?rq11
      case yq11 =>
        intro w hbw hd
        clear hd
        go_simp
        first | done | with_reducible rfl
      (try simp only [Act.put, List.setIfInBounds_toArray, List.set_cons_zero, List.set_cons_succ, List.nil_append, List.cons_append])
      refine chain_end (fun wz hbz hd => ?_)
      cases b0 with
      | false =>
        have HPUT : Hid (putM l x = l.take k ++ x :: l.drop k) := putM_at HR.out HY.out
        clear HY HR HTS
        obtain ⟨A0, hA0⟩ : ∃ A0 : Option Addr, some ⟨b, off, none⟩ = A0 := ⟨_, rfl⟩
        rw [hA0] at HA ⊢
        clear q0 q1 q2 p0 p1 p2 hA0 hbl hb00
        have hbz2 : Below V.heap.size V wz := hbw.trans ((hb0.trans (hbz.mono hb0.size)).mono hbw.size)
        have p0 : wz.cell? ⟨w.heap.size, 0, none⟩ = some (.int .i64 x.1) := by simpa using (kV.below_ hbz2 hlV).cell_ 0
        have p1 : wz.cell? ⟨w.heap.size, 1, none⟩ = some (.int .i64 x.2.1) := by simpa using (kV.below_ hbz2 hlV).cell_ 1
        have p2 : wz.cell? ⟨w.heap.size, 2, none⟩ = some (.int .i64 x.2.2) := by simpa using (kV.below_ hbz2 hlV).cell_ 2
        have hlz : w.heap.size < wz.heap.size := Nat.lt_of_lt_of_le hlV hbz2.size
        have HBZ : Hid (Below w.heap.size w wz) := by show Below _ _ _; exact BV.trans (hbz2.mono hsz)
        obtain ⟨l1, hl1⟩ : ∃ l1, l.take k = l1 := ⟨_, rfl⟩
        obtain ⟨l2, hl2⟩ : ∃ l2, l.drop k = l2 := ⟨_, rfl⟩
        have n1 : l1.length = k := by rw [← hl1]; simp; omega
        have n2 : l2.length = l.length - k := by rw [← hl2]; simp
        have hpre := run_preR (P := Try.prog) mapE A0 c l.length (k : Int) (by omega) (by omega)
        have hsuf := run_sufR (P := Try.prog) mapE A0 c l.length (k : Int) (by omega) (by omega)
        have k9 : ((k : Int)).toNat = k := by omega
        rw [k9] at hpre hsuf
        obtain ⟨A2, hA2⟩ : ∃ A2, (if c = k then A0 else A0.map (fun a => a.add (k * mapE.sz))) = A2 := ⟨_, rfl⟩
        have H1 : Hid (SR mapE wz A0 l1) := by show SR _ _ _ _; rw [← hl1]; exact ((HA.out.1.ext BV).ext hbz2).take k
        have H2 : Hid (SR mapE wz A2 l2) := by
          show SR _ _ _ _
          have h := ((HA.out.ext BV).ext hbz2).suf k (by omega)
          rw [hA2, hl2] at h
          exact h.1
        rw [hA2] at hsuf
        have hpre2 : ∀ W, (Instr.slice 22 (.slice A0 l.length c) none (some (.int .i64 k)) none).run Try.prog W = .ok (.slice A0 k c) W := hpre
        have hsuf2 : ∀ W, (Instr.slice 22 (.slice A0 l.length c) (some (.int .i64 k)) none none).run Try.prog W = .ok (.slice A2 (l.length - k) (c - k)) W := hsuf
        have HPM : Hid (putM l x = l1 ++ x :: l2) := by show _ = _; rw [← hl1, ← hl2]; exact HPUT.out
        clear hl1 hl2 hA2 hpre hsuf hbz2 hd hbz hb0 hz0 HPUT kV BV hbw
        go_wp2_with fail
        go_region_held3 (fun W => Below wz.heap.size wz W ∧ W.cell? ⟨w.heap.size, 0, none⟩ = some (.int .i64 x.1) ∧ W.cell? ⟨w.heap.size, 1, none⟩ = some (.int .i64 x.2.1) ∧ W.cell? ⟨w.heap.size, 2, none⟩ = some (.int .i64 x.2.2))
          (exact heldX ((by repeat' (first | with_reducible exact Below.refl _ _ | with_reducible assumption | with_reducible apply Below.drew | with_reducible apply below_drewN | with_reducible apply Below.alloc | with_reducible apply Below.setCell | (with_reducible refine Below.trans ?_ (Below.mono (by assumption) ?_)) | (simp; done) | (simp; omega) | omega | with_reducible apply le_size_alloc | with_reducible apply le_size_drewN | with_reducible apply le_size_drew | with_reducible apply le_size_setCell | refine Nat.le_trans ?_ (Below.size (by assumption))))) p0 p1 p2 hlz)
          (first | (refine step_appR mapE rfl (.tmp 20) (.tmp 23) _ rfl rfl _ _ (Nat.le_refl _) _ 0 0 [] rfl (.inl ⟨rfl, SR.nil⟩) A0 c k l1 n1.symm (H1.out.ext ?_) (by simp; omega) rfl rfl ?_; (exact (by repeat' (first | with_reducible exact Below.refl _ _ | with_reducible assumption | with_reducible apply Below.drew | with_reducible apply below_drewN | with_reducible apply Below.alloc | with_reducible apply Below.setCell | (with_reducible refine Below.trans ?_ (Below.mono (by assumption) ?_)) | (simp; done) | (simp; omega) | omega | with_reducible apply le_size_alloc | with_reducible apply le_size_drewN | with_reducible apply le_size_drew | with_reducible apply le_size_setCell | refine Nat.le_trans ?_ (Below.size (by assumption))))); intro A5 c5 w5 m5 hm5 hc5 hb5; have z5 := hb5.size; obtain ⟨hz5, y5⟩ := mono2 hb5 (Below.size (show Below wz.heap.size wz _ from (by repeat' (first | with_reducible exact Below.refl _ _ | with_reducible assumption | with_reducible apply Below.drew | with_reducible apply below_drewN | with_reducible apply Below.alloc | with_reducible apply Below.setCell | (with_reducible refine Below.trans ?_ (Below.mono (by assumption) ?_)) | (simp; done) | (simp; omega) | omega | with_reducible apply le_size_alloc | with_reducible apply le_size_drewN | with_reducible apply le_size_drew | with_reducible apply le_size_setCell | refine Nat.le_trans ?_ (Below.size (by assumption)))))); have HB5 := Lib.hid hb5; clear hb5) | (refine step_appR mapE rfl (.tmp 27) (.tmp 30) _ rfl rfl _ _ z6 A6 c6 m6 (([] ++ l1) ++ [x]) hm6.out hc6 A2 (c - k) (l.length - k) l2 n2.symm (H2.out.ext ?_) (by simp; omega) rfl rfl ?_; (exact (by repeat' (first | with_reducible exact Below.refl _ _ | with_reducible assumption | with_reducible apply Below.drew | with_reducible apply below_drewN | with_reducible apply Below.alloc | with_reducible apply Below.setCell | (with_reducible refine Below.trans ?_ (Below.mono (by assumption) ?_)) | (simp; done) | (simp; omega) | omega | with_reducible apply le_size_alloc | with_reducible apply le_size_drewN | with_reducible apply le_size_drew | with_reducible apply le_size_setCell | refine Nat.le_trans ?_ (Below.size (by assumption))))); intro A7 c7 w7 m7 hm7 hc7 hb7; have hz7 := hb7.mono y5; clear hb7; have HB7 : Hid (Below wz.heap.size wz w7) := (by show Below _ _ _; exact (by repeat' (first | with_reducible exact Below.refl _ _ | with_reducible assumption | with_reducible apply Below.drew | with_reducible apply below_drewN | with_reducible apply Below.alloc | with_reducible apply Below.setCell | (with_reducible refine Below.trans ?_ (Below.mono (by assumption) ?_)) | (simp; done) | (simp; omega) | omega | with_reducible apply le_size_alloc | with_reducible apply le_size_drewN | with_reducible apply le_size_drew | with_reducible apply le_size_setCell | refine Nat.le_trans ?_ (Below.size (by assumption)))))) | (refine step_appR mapE rfl (.tmp 24) (.tmp 26) _ rfl rfl _ _ ?_ A5 c5 m5 ([] ++ l1) hm5.out (hc5.ext ?_) _ 1 1 [x] rfl (SR.oneM (t := 59) ?_) (by simp; omega) rfl rfl ?_; (exact Nat.le_trans z5 (Below.size (show Below w5.heap.size w5 _ from (by repeat' (first | with_reducible exact Below.refl _ _ | with_reducible assumption | with_reducible apply Below.drew | with_reducible apply below_drewN | with_reducible apply Below.alloc | with_reducible apply Below.setCell | (with_reducible refine Below.trans ?_ (Below.mono (by assumption) ?_)) | (simp; done) | (simp; omega) | omega | with_reducible apply le_size_alloc | with_reducible apply le_size_drewN | with_reducible apply le_size_drew | with_reducible apply le_size_setCell | refine Nat.le_trans ?_ (Below.size (by assumption))))))); (exact (by repeat' (first | with_reducible exact Below.refl _ _ | with_reducible assumption | with_reducible apply Below.drew | with_reducible apply below_drewN | with_reducible apply Below.alloc | with_reducible apply Below.setCell | (with_reducible refine Below.trans ?_ (Below.mono (by assumption) ?_)) | (simp; done) | (simp; omega) | omega | with_reducible apply le_size_alloc | with_reducible apply le_size_drewN | with_reducible apply le_size_drew | with_reducible apply le_size_setCell | refine Nat.le_trans ?_ (Below.size (by assumption))))); (first | (focus ((repeat' (first | (with_reducible refine Blk.new_ ?_ ?_ <;> first | (simp; done) | rfl) | with_reducible apply Blk.drew_ | with_reducible apply Blk.drewN_ | with_reducible apply Blk.alloc_)); done)) | (with_reducible refine Blk.below_ ?_ HB5.out ?_; (focus ((repeat' (first | (with_reducible refine Blk.new_ ?_ ?_ <;> first | (simp; done) | rfl) | with_reducible apply Blk.drew_ | with_reducible apply Blk.drewN_ | with_reducible apply Blk.alloc_)); done)); (focus (first | (simp; done) | (simp; omega) | (simp [World.drew]; done) | (simp [World.drew]; omega))))); intro A6 c6 w6 m6 hm6 hc6 hb6; have z6 := Nat.le_trans (Nat.le_trans z5 (Below.size (show Below w5.heap.size w5 _ from (by repeat' (first | with_reducible exact Below.refl _ _ | with_reducible assumption | with_reducible apply Below.drew | with_reducible apply below_drewN | with_reducible apply Below.alloc | with_reducible apply Below.setCell | (with_reducible refine Below.trans ?_ (Below.mono (by assumption) ?_)) | (simp; done) | (simp; omega) | omega | with_reducible apply le_size_alloc | with_reducible apply le_size_drewN | with_reducible apply le_size_drew | with_reducible apply le_size_setCell | refine Nat.le_trans ?_ (Below.size (by assumption))))))) hb6.size; have hz6 := hb6.mono y5; clear hb6))
        all_goals
          have HC7 := Lib.hid hc7.cr
          clear hc7
          go_wp2_with fail
          refine bodyPost_ret (v := .slice A7 m7 c7) (by simp [results, Try.results58, go_sem]) rfl ?_
          unfold RowPost
          rw [HPM.out]
          refine ⟨A7, c7, by rw [hm7.out]; simp, by simpa using HC7.out, HBZ.out.trans (HB7.out.mono (HBZ.out).size)⟩
      | true =>
        have HN : Hid (∀ m ∈ l.take (k + 1), ltM m x = true) := by
          show ∀ m ∈ _, _
          rw [HTS.out]
          intro m hm
          rcases List.mem_append.1 hm with h | h
          · exact HR.out m h
          · simp at h; subst h; exact hb00
        go_wp2_with fail
        go_roundw
        case rel => exact ⟨k + 1, by omega, by go_num, HN.out, hbw.trans ((hb0.trans (hbz.mono hb0.size)).mono hbw.size)⟩
        case measure => simp [intOf]; omega
    · have g0 : ¬ ((k : Int) < l.length) := by omega
      have HPUT : Hid (putM l x = l.take k ++ x :: l.drop k) := putM_at HR.out (fun y hy => by rw [List.getElem?_eq_none (by omega)] at hy; cases hy)
      clear p0 p1 p2 HR
      go_wp2_with fail
      refine wp_region_chain [.is ?fp0, .is ?fp1, .is ?fp2, .is (.bool false), .is ?fp4, .is undef, .is undef, .is undef, .is undef, .is undef, .is undef, .is ?fp11] (by kernel_rfl) (by kernel_rfl) (by kernel_rfl) (lasts_is (lasts_is (lasts_is (lasts_is (lasts_is (lasts_is (lasts_is (lasts_is (lasts_is (lasts_is (lasts_is (lasts_is lasts_nil)))))))))))) (fun W0 hb0 hz0 => ?_)
      rotate_left 5
      refine chain_is (step_take (by rfl) ?yp0) ?rp0
      case yp0 =>
        intro w hbw hd
        clear hd
        go_simp
        first | done | with_reducible rfl
      (try simp only [Act.put, List.setIfInBounds_toArray, List.set_cons_zero, List.set_cons_succ, List.nil_append, List.cons_append])
      refine chain_is (step_take (by rfl) ?yp1) ?rp1
      case yp1 =>
        intro w hbw hd
        clear hd
        go_simp
        first | done | with_reducible rfl
      (try simp only [Act.put, List.setIfInBounds_toArray, List.set_cons_zero, List.set_cons_succ, List.nil_append, List.cons_append])
      refine chain_is (step_take (by rfl) ?yp2) ?rp2
      case yp2 =>
        intro w hbw hd
        clear hd
        go_simp
        first | done | with_reducible rfl
      (try simp only [Act.put, List.setIfInBounds_toArray, List.set_cons_zero, List.set_cons_succ, List.nil_append, List.cons_append])
      refine chain_is (step_take (by rfl) ?yp3) ?rp3
      case yp3 =>
        intro w hbw hd
        clear hd
        go_simp
        first | done | with_reducible rfl | omega
      (try simp only [Act.put, List.setIfInBounds_toArray, List.set_cons_zero, List.set_cons_succ, List.nil_append, List.cons_append])
      refine chain_is (step_take (by rfl) ?yp4) ?rp4
      case yp4 =>
        intro w hbw hd
        clear hd
        go_simp
        first | done | with_reducible rfl
      (try simp only [Act.put, List.setIfInBounds_toArray, List.set_cons_zero, List.set_cons_succ, List.nil_append, List.cons_append])
      refine chain_is (step_un (by rfl)) ?rp5
      (try simp only [Act.put, List.setIfInBounds_toArray, List.set_cons_zero, List.set_cons_succ, List.nil_append, List.cons_append])
      refine chain_is (step_un (by rfl)) ?rp6
      (try simp only [Act.put, List.setIfInBounds_toArray, List.set_cons_zero, List.set_cons_succ, List.nil_append, List.cons_append])
      refine chain_is (step_un (by rfl)) ?rp7
      (try simp only [Act.put, List.setIfInBounds_toArray, List.set_cons_zero, List.set_cons_succ, List.nil_append, List.cons_append])
      refine chain_is (step_un (by rfl)) ?rp8
      (try simp only [Act.put, List.setIfInBounds_toArray, List.set_cons_zero, List.set_cons_succ, List.nil_append, List.cons_append])
      refine chain_is (step_un (by rfl)) ?rp9
      (try simp only [Act.put, List.setIfInBounds_toArray, List.set_cons_zero, List.set_cons_succ, List.nil_append, List.cons_append])
      refine chain_is (step_un (by rfl)) ?rp10
      (try simp only [Act.put, List.setIfInBounds_toArray, List.set_cons_zero, List.set_cons_succ, List.nil_append, List.cons_append])
      refine chain_is (step_take (by rfl) ?yp11) ?rp11
      case yp11 =>
        intro w hbw hd
        clear hd
        go_simp
        first | done | with_reducible rfl
      (try simp only [Act.put, List.setIfInBounds_toArray, List.set_cons_zero, List.set_cons_succ, List.nil_append, List.cons_append])
      refine chain_end (fun wz hbz hd => ?_)
      have hbz2 : Below V.heap.size V wz := hbw.trans ((hb0.trans (hbz.mono hb0.size)).mono hbw.size)
      have p0 : wz.cell? ⟨w.heap.size, 0, none⟩ = some (.int .i64 x.1) := by simpa using (kV.below_ hbz2 hlV).cell_ 0
      have p1 : wz.cell? ⟨w.heap.size, 1, none⟩ = some (.int .i64 x.2.1) := by simpa using (kV.below_ hbz2 hlV).cell_ 1
      have p2 : wz.cell? ⟨w.heap.size, 2, none⟩ = some (.int .i64 x.2.2) := by simpa using (kV.below_ hbz2 hlV).cell_ 2
      have hlz : w.heap.size < wz.heap.size := Nat.lt_of_lt_of_le hlV hbz2.size
      have HBZ : Hid (Below w.heap.size w wz) := by show Below _ _ _; exact BV.trans (hbz2.mono hsz)
      obtain ⟨l1, hl1⟩ : ∃ l1, l.take k = l1 := ⟨_, rfl⟩
      obtain ⟨l2, hl2⟩ : ∃ l2, l.drop k = l2 := ⟨_, rfl⟩
      have n1 : l1.length = k := by rw [← hl1]; simp; omega
      have n2 : l2.length = l.length - k := by rw [← hl2]; simp
      have hpre := run_preR (P := Try.prog) mapE A0 c l.length (k : Int) (by omega) (by omega)
      have hsuf := run_sufR (P := Try.prog) mapE A0 c l.length (k : Int) (by omega) (by omega)
      have k9 : ((k : Int)).toNat = k := by omega
      rw [k9] at hpre hsuf
      obtain ⟨A2, hA2⟩ : ∃ A2, (if c = k then A0 else A0.map (fun a => a.add (k * mapE.sz))) = A2 := ⟨_, rfl⟩
      have H1 : Hid (SR mapE wz A0 l1) := by show SR _ _ _ _; rw [← hl1]; exact ((HA.out.1.ext BV).ext hbz2).take k
      have H2 : Hid (SR mapE wz A2 l2) := by
        show SR _ _ _ _
        have h := ((HA.out.ext BV).ext hbz2).suf k (by omega)
        rw [hA2, hl2] at h
        exact h.1
      rw [hA2] at hsuf
      have hpre2 : ∀ W, (Instr.slice 22 (.slice A0 l.length c) none (some (.int .i64 k)) none).run Try.prog W = .ok (.slice A0 k c) W := hpre
      have hsuf2 : ∀ W, (Instr.slice 22 (.slice A0 l.length c) (some (.int .i64 k)) none none).run Try.prog W = .ok (.slice A2 (l.length - k) (c - k)) W := hsuf
      have HPM : Hid (putM l x = l1 ++ x :: l2) := by show _ = _; rw [← hl1, ← hl2]; exact HPUT.out
      clear hl1 hl2 hA2 hpre hsuf hbz2 hd hbz hb0 hz0 HPUT kV BV hbw
      go_wp2_with fail
      go_region_held3 (fun W => Below wz.heap.size wz W ∧ W.cell? ⟨w.heap.size, 0, none⟩ = some (.int .i64 x.1) ∧ W.cell? ⟨w.heap.size, 1, none⟩ = some (.int .i64 x.2.1) ∧ W.cell? ⟨w.heap.size, 2, none⟩ = some (.int .i64 x.2.2))
        (exact heldX ((by repeat' (first | with_reducible exact Below.refl _ _ | with_reducible assumption | with_reducible apply Below.drew | with_reducible apply below_drewN | with_reducible apply Below.alloc | with_reducible apply Below.setCell | (with_reducible refine Below.trans ?_ (Below.mono (by assumption) ?_)) | (simp; done) | (simp; omega) | omega | with_reducible apply le_size_alloc | with_reducible apply le_size_drewN | with_reducible apply le_size_drew | with_reducible apply le_size_setCell | refine Nat.le_trans ?_ (Below.size (by assumption))))) p0 p1 p2 hlz)
        (first | (refine step_appR mapE rfl (.tmp 20) (.tmp 23) _ rfl rfl _ _ (Nat.le_refl _) _ 0 0 [] rfl (.inl ⟨rfl, SR.nil⟩) A0 c k l1 n1.symm (H1.out.ext ?_) (by simp; omega) rfl rfl ?_; (exact (by repeat' (first | with_reducible exact Below.refl _ _ | with_reducible assumption | with_reducible apply Below.drew | with_reducible apply below_drewN | with_reducible apply Below.alloc | with_reducible apply Below.setCell | (with_reducible refine Below.trans ?_ (Below.mono (by assumption) ?_)) | (simp; done) | (simp; omega) | omega | with_reducible apply le_size_alloc | with_reducible apply le_size_drewN | with_reducible apply le_size_drew | with_reducible apply le_size_setCell | refine Nat.le_trans ?_ (Below.size (by assumption))))); intro A5 c5 w5 m5 hm5 hc5 hb5; have z5 := hb5.size; obtain ⟨hz5, y5⟩ := mono2 hb5 (Below.size (show Below wz.heap.size wz _ from (by repeat' (first | with_reducible exact Below.refl _ _ | with_reducible assumption | with_reducible apply Below.drew | with_reducible apply below_drewN | with_reducible apply Below.alloc | with_reducible apply Below.setCell | (with_reducible refine Below.trans ?_ (Below.mono (by assumption) ?_)) | (simp; done) | (simp; omega) | omega | with_reducible apply le_size_alloc | with_reducible apply le_size_drewN | with_reducible apply le_size_drew | with_reducible apply le_size_setCell | refine Nat.le_trans ?_ (Below.size (by assumption)))))); have HB5 := Lib.hid hb5; clear hb5) | (refine step_appR mapE rfl (.tmp 27) (.tmp 30) _ rfl rfl _ _ z6 A6 c6 m6 (([] ++ l1) ++ [x]) hm6.out hc6 A2 (c - k) (l.length - k) l2 n2.symm (H2.out.ext ?_) (by simp; omega) rfl rfl ?_; (exact (by repeat' (first | with_reducible exact Below.refl _ _ | with_reducible assumption | with_reducible apply Below.drew | with_reducible apply below_drewN | with_reducible apply Below.alloc | with_reducible apply Below.setCell | (with_reducible refine Below.trans ?_ (Below.mono (by assumption) ?_)) | (simp; done) | (simp; omega) | omega | with_reducible apply le_size_alloc | with_reducible apply le_size_drewN | with_reducible apply le_size_drew | with_reducible apply le_size_setCell | refine Nat.le_trans ?_ (Below.size (by assumption))))); intro A7 c7 w7 m7 hm7 hc7 hb7; have hz7 := hb7.mono y5; clear hb7; have HB7 : Hid (Below wz.heap.size wz w7) := (by show Below _ _ _; exact (by repeat' (first | with_reducible exact Below.refl _ _ | with_reducible assumption | with_reducible apply Below.drew | with_reducible apply below_drewN | with_reducible apply Below.alloc | with_reducible apply Below.setCell | (with_reducible refine Below.trans ?_ (Below.mono (by assumption) ?_)) | (simp; done) | (simp; omega) | omega | with_reducible apply le_size_alloc | with_reducible apply le_size_drewN | with_reducible apply le_size_drew | with_reducible apply le_size_setCell | refine Nat.le_trans ?_ (Below.size (by assumption)))))) | (refine step_appR mapE rfl (.tmp 24) (.tmp 26) _ rfl rfl _ _ ?_ A5 c5 m5 ([] ++ l1) hm5.out (hc5.ext ?_) _ 1 1 [x] rfl (SR.oneM (t := 59) ?_) (by simp; omega) rfl rfl ?_; (exact Nat.le_trans z5 (Below.size (show Below w5.heap.size w5 _ from (by repeat' (first | with_reducible exact Below.refl _ _ | with_reducible assumption | with_reducible apply Below.drew | with_reducible apply below_drewN | with_reducible apply Below.alloc | with_reducible apply Below.setCell | (with_reducible refine Below.trans ?_ (Below.mono (by assumption) ?_)) | (simp; done) | (simp; omega) | omega | with_reducible apply le_size_alloc | with_reducible apply le_size_drewN | with_reducible apply le_size_drew | with_reducible apply le_size_setCell | refine Nat.le_trans ?_ (Below.size (by assumption))))))); (exact (by repeat' (first | with_reducible exact Below.refl _ _ | with_reducible assumption | with_reducible apply Below.drew | with_reducible apply below_drewN | with_reducible apply Below.alloc | with_reducible apply Below.setCell | (with_reducible refine Below.trans ?_ (Below.mono (by assumption) ?_)) | (simp; done) | (simp; omega) | omega | with_reducible apply le_size_alloc | with_reducible apply le_size_drewN | with_reducible apply le_size_drew | with_reducible apply le_size_setCell | refine Nat.le_trans ?_ (Below.size (by assumption))))); (first | (focus ((repeat' (first | (with_reducible refine Blk.new_ ?_ ?_ <;> first | (simp; done) | rfl) | with_reducible apply Blk.drew_ | with_reducible apply Blk.drewN_ | with_reducible apply Blk.alloc_)); done)) | (with_reducible refine Blk.below_ ?_ HB5.out ?_; (focus ((repeat' (first | (with_reducible refine Blk.new_ ?_ ?_ <;> first | (simp; done) | rfl) | with_reducible apply Blk.drew_ | with_reducible apply Blk.drewN_ | with_reducible apply Blk.alloc_)); done)); (focus (first | (simp; done) | (simp; omega) | (simp [World.drew]; done) | (simp [World.drew]; omega))))); intro A6 c6 w6 m6 hm6 hc6 hb6; have z6 := Nat.le_trans (Nat.le_trans z5 (Below.size (show Below w5.heap.size w5 _ from (by repeat' (first | with_reducible exact Below.refl _ _ | with_reducible assumption | with_reducible apply Below.drew | with_reducible apply below_drewN | with_reducible apply Below.alloc | with_reducible apply Below.setCell | (with_reducible refine Below.trans ?_ (Below.mono (by assumption) ?_)) | (simp; done) | (simp; omega) | omega | with_reducible apply le_size_alloc | with_reducible apply le_size_drewN | with_reducible apply le_size_drew | with_reducible apply le_size_setCell | refine Nat.le_trans ?_ (Below.size (by assumption))))))) hb6.size; have hz6 := hb6.mono y5; clear hb6))
      all_goals
        have HC7 := Lib.hid hc7.cr
        clear hc7
        go_wp2_with fail
        refine bodyPost_ret (v := .slice A7 m7 c7) (by simp [results, Try.results58, go_sem]) rfl ?_
        unfold RowPost
        rw [HPM.out]
        refine ⟨A7, c7, by rw [hm7.out]; simp, by simpa using HC7.out, HBZ.out.trans (HB7.out.mono (HBZ.out).size)⟩

set_option maxRecDepth 100000 in
set_option maxHeartbeats 2000000 in
theorem RAdd_any (A : Option Addr) (c : Nat) (l : List M3) (f p q : Int) (w : World) (ha : CR mapE w A c l) (la : l.length ≤ 1000) :
    Calls Try.prog 28 #[.slice A l.length c, .int .i64 f, .agg #[.int .i64 p, .int .i64 q]] w (LePost (addM l f (p, q)) w) := by
  have HS := Lib.hid ha
  have hcap := ha.2
  clear ha
  obtain ⟨V, hV⟩ : ∃ V, w.alloc (.cells #[.int .i64 p, .int .i64 q] 24) = V := ⟨_, rfl⟩
  have BV : Below w.heap.size w V := by rw [← hV]; exact (Below.refl _ w).alloc (Nat.le_refl _) _
  have kV : Blk V w.heap.size 24 #[.int .i64 p, .int .i64 q] := by rw [← hV]; exact Blk.new_ rfl rfl
  have zV : w.heap.size < V.heap.size := kV.lt
  have p0 : V.cell? ⟨w.heap.size, 0, none⟩ = some (.int .i64 p) := by simpa using kV.cell_ 0
  have p1 : V.cell? ⟨w.heap.size, 1, none⟩ = some (.int .i64 q) := by simpa using kV.cell_ 1
  have HSV := Lib.hid (HS.out.ext BV)
  obtain ⟨⟨y, n⟩, hk⟩ : ∃ r, chkM l = r := ⟨_, rfl⟩
  have HK := Lib.hid hk
  by_cases y0 : y = 0
  · subst y0
    cases d1 : decide (0 ≤ f ∧ f < 256) with
    | false =>
      have HR : Hid (addM l f (p, q) = ([], 2)) := by show _ = _; unfold addM; rw [hk, if_neg (by simp), if_neg (by simp [okM, d1])]
      clear hk
      go_enter Try.func28, Try.ntmps28
      go_wp2_with (first | (go_at_call 13; refine (RCheck_any A c l _ (HSV.out.ext (by repeat' (first | with_reducible exact Below.refl _ _ | with_reducible assumption | with_reducible apply Below.drew | with_reducible apply below_drewN | with_reducible apply Below.alloc | with_reducible apply Below.setCell | (with_reducible refine Below.trans ?_ (Below.mono (by assumption) ?_)) | (simp; done) | (simp; omega) | omega | with_reducible apply le_size_alloc | with_reducible apply le_size_drewN | with_reducible apply le_size_drew | with_reducible apply le_size_setCell | refine Nat.le_trans ?_ (Below.size (by assumption))))) la HK.out).mono ?_; rintro e w1 ⟨rfl, hb1⟩; have bw1 : Below V.heap.size V w1 := (by repeat' (first | with_reducible exact Below.refl _ _ | with_reducible assumption | with_reducible apply Below.drew | with_reducible apply below_drewN | with_reducible apply Below.alloc | with_reducible apply Below.setCell | (with_reducible refine Below.trans ?_ (Below.mono (by assumption) ?_)) | (simp; done) | (simp; omega) | omega | with_reducible apply le_size_alloc | with_reducible apply le_size_drewN | with_reducible apply le_size_drew | with_reducible apply le_size_setCell | refine Nat.le_trans ?_ (Below.size (by assumption)))); have zw1 := bw1.size; have p0w1 := cell_keep bw1 p0 zV; have p1w1 := cell_keep bw1 p1 zV; have yw1 : w.heap.size < w1.heap.size := Nat.lt_of_lt_of_le zV zw1) | (go_at_call 45; refine (frame_b _ _ d1 _).mono ?_; rintro e w' ⟨rfl, rfl⟩))
      refine bodyPost_ret (v := .tuple #[.slice none 0 0, .int .i64 2]) (by simp [results, Try.results28, go_sem]) rfl ?_
      exact LePost.bad HR.out (BV.trans (bw1.mono BV.size))
    | true =>
      cases d2 : okP (p, q) with
      | false =>
        have HR : Hid (addM l f (p, q) = ([], 2)) := by show _ = _; unfold addM; rw [hk, if_neg (by simp), if_neg (by simp [okM, d2])]
        clear hk
        go_enter Try.func28, Try.ntmps28
        go_wp2_with (first | (go_at_call 13; refine (RCheck_any A c l _ (HSV.out.ext (by repeat' (first | with_reducible exact Below.refl _ _ | with_reducible assumption | with_reducible apply Below.drew | with_reducible apply below_drewN | with_reducible apply Below.alloc | with_reducible apply Below.setCell | (with_reducible refine Below.trans ?_ (Below.mono (by assumption) ?_)) | (simp; done) | (simp; omega) | omega | with_reducible apply le_size_alloc | with_reducible apply le_size_drewN | with_reducible apply le_size_drew | with_reducible apply le_size_setCell | refine Nat.le_trans ?_ (Below.size (by assumption))))) la HK.out).mono ?_; rintro e w1 ⟨rfl, hb1⟩; have bw1 : Below V.heap.size V w1 := (by repeat' (first | with_reducible exact Below.refl _ _ | with_reducible assumption | with_reducible apply Below.drew | with_reducible apply below_drewN | with_reducible apply Below.alloc | with_reducible apply Below.setCell | (with_reducible refine Below.trans ?_ (Below.mono (by assumption) ?_)) | (simp; done) | (simp; omega) | omega | with_reducible apply le_size_alloc | with_reducible apply le_size_drewN | with_reducible apply le_size_drew | with_reducible apply le_size_setCell | refine Nat.le_trans ?_ (Below.size (by assumption)))); have zw1 := bw1.size; have p0w1 := cell_keep bw1 p0 zV; have p1w1 := cell_keep bw1 p1 zV; have yw1 : w.heap.size < w1.heap.size := Nat.lt_of_lt_of_le zV zw1) | (go_at_call 45; refine (frame_b _ _ d1 _).mono ?_; rintro e w' ⟨rfl, rfl⟩) | (go_at_call 46; refine (place_b _ _ _ d2 _).mono ?_; rintro e w' ⟨rfl, rfl⟩))
        refine bodyPost_ret (v := .tuple #[.slice none 0 0, .int .i64 2]) (by simp [results, Try.results28, go_sem]) rfl ?_
        exact LePost.bad HR.out (BV.trans ((show Below V.heap.size V _ from (by repeat' (first | with_reducible exact Below.refl _ _ | with_reducible assumption | with_reducible apply Below.drew | with_reducible apply below_drewN | with_reducible apply Below.alloc | with_reducible apply Below.setCell | (with_reducible refine Below.trans ?_ (Below.mono (by assumption) ?_)) | (simp; done) | (simp; omega) | omega | with_reducible apply le_size_alloc | with_reducible apply le_size_drewN | with_reducible apply le_size_drew | with_reducible apply le_size_setCell | refine Nat.le_trans ?_ (Below.size (by assumption))))).mono BV.size))
      | true =>
        have hok : okM (f, p, q) = true := by simp [okM, d1, d2]
        rcases idxM_cases l (p, q) with ⟨_, h2, hi⟩ | ⟨i, x, _, _, h2, hi, _⟩
        · have HR : Hid (addM l f (p, q) = (putM l (f, p, q), 0)) := by show _ = _; unfold addM; rw [hk, if_neg (by simp), if_pos hok, h2]; rfl
          have HI := Lib.hid hi
          clear hk h2 hi
          go_enter Try.func28, Try.ntmps28
          go_wp2_with (first | (go_at_call 13; refine (RCheck_any A c l _ (HSV.out.ext (by repeat' (first | with_reducible exact Below.refl _ _ | with_reducible assumption | with_reducible apply Below.drew | with_reducible apply below_drewN | with_reducible apply Below.alloc | with_reducible apply Below.setCell | (with_reducible refine Below.trans ?_ (Below.mono (by assumption) ?_)) | (simp; done) | (simp; omega) | omega | with_reducible apply le_size_alloc | with_reducible apply le_size_drewN | with_reducible apply le_size_drew | with_reducible apply le_size_setCell | refine Nat.le_trans ?_ (Below.size (by assumption))))) la HK.out).mono ?_; rintro e w1 ⟨rfl, hb1⟩; have bw1 : Below V.heap.size V w1 := (by repeat' (first | with_reducible exact Below.refl _ _ | with_reducible assumption | with_reducible apply Below.drew | with_reducible apply below_drewN | with_reducible apply Below.alloc | with_reducible apply Below.setCell | (with_reducible refine Below.trans ?_ (Below.mono (by assumption) ?_)) | (simp; done) | (simp; omega) | omega | with_reducible apply le_size_alloc | with_reducible apply le_size_drewN | with_reducible apply le_size_drew | with_reducible apply le_size_setCell | refine Nat.le_trans ?_ (Below.size (by assumption)))); have zw1 := bw1.size; have p0w1 := cell_keep bw1 p0 zV; have p1w1 := cell_keep bw1 p1 zV; have yw1 : w.heap.size < w1.heap.size := Nat.lt_of_lt_of_le zV zw1) | (go_at_call 45; refine (frame_b _ _ d1 _).mono ?_; rintro e w' ⟨rfl, rfl⟩) | (go_at_call 46; refine (place_b _ _ _ d2 _).mono ?_; rintro e w' ⟨rfl, rfl⟩) | (go_at_call 48; refine (at_any A c l _ _ _ (HSV.out.1.ext (by repeat' (first | with_reducible exact Below.refl _ _ | with_reducible assumption | with_reducible apply Below.drew | with_reducible apply below_drewN | with_reducible apply Below.alloc | with_reducible apply Below.setCell | (with_reducible refine Below.trans ?_ (Below.mono (by assumption) ?_)) | (simp; done) | (simp; omega) | omega | with_reducible apply le_size_alloc | with_reducible apply le_size_drewN | with_reducible apply le_size_drew | with_reducible apply le_size_setCell | refine Nat.le_trans ?_ (Below.size (by assumption))))) la HI.out).mono ?_; rintro e w2 ⟨rfl, hb2⟩; have bw2 : Below V.heap.size V w2 := (by repeat' (first | with_reducible exact Below.refl _ _ | with_reducible assumption | with_reducible apply Below.drew | with_reducible apply below_drewN | with_reducible apply Below.alloc | with_reducible apply Below.setCell | (with_reducible refine Below.trans ?_ (Below.mono (by assumption) ?_)) | (simp; done) | (simp; omega) | omega | with_reducible apply le_size_alloc | with_reducible apply le_size_drewN | with_reducible apply le_size_drew | with_reducible apply le_size_setCell | refine Nat.le_trans ?_ (Below.size (by assumption)))); have zw2 := bw2.size; have p0w2 := cell_keep bw2 p0 zV; have p1w2 := cell_keep bw2 p1 zV; have yw2 : w.heap.size < w2.heap.size := Nat.lt_of_lt_of_le zV zw2) | (go_at_call 58; refine (put_any A c l (f, p, q) _ (HSV.out.ext bw2) (by omega)).mono ?_; rintro e w6 ⟨A6, c6, rfl, hc6, hb6⟩))
          refine bodyPost_ret (v := .tuple #[.slice A6 (putM l (f, p, q)).length c6, .int .i64 0]) (by simp [results, Try.results28, go_sem]) rfl ?_
          unfold LePost
          rw [HR.out]
          exact ⟨A6, c6, rfl, hc6, BV.trans ((bw2.trans (hb6.mono bw2.size)).mono BV.size)⟩
        · have HR : Hid (addM l f (p, q) = ([], 7)) := by show _ = _; unfold addM; rw [hk, if_neg (by simp), if_pos hok, h2]; rfl
          have HI := Lib.hid hi
          clear hk h2 hi
          go_enter Try.func28, Try.ntmps28
          go_wp2_with (first | (go_at_call 13; refine (RCheck_any A c l _ (HSV.out.ext (by repeat' (first | with_reducible exact Below.refl _ _ | with_reducible assumption | with_reducible apply Below.drew | with_reducible apply below_drewN | with_reducible apply Below.alloc | with_reducible apply Below.setCell | (with_reducible refine Below.trans ?_ (Below.mono (by assumption) ?_)) | (simp; done) | (simp; omega) | omega | with_reducible apply le_size_alloc | with_reducible apply le_size_drewN | with_reducible apply le_size_drew | with_reducible apply le_size_setCell | refine Nat.le_trans ?_ (Below.size (by assumption))))) la HK.out).mono ?_; rintro e w1 ⟨rfl, hb1⟩; have bw1 : Below V.heap.size V w1 := (by repeat' (first | with_reducible exact Below.refl _ _ | with_reducible assumption | with_reducible apply Below.drew | with_reducible apply below_drewN | with_reducible apply Below.alloc | with_reducible apply Below.setCell | (with_reducible refine Below.trans ?_ (Below.mono (by assumption) ?_)) | (simp; done) | (simp; omega) | omega | with_reducible apply le_size_alloc | with_reducible apply le_size_drewN | with_reducible apply le_size_drew | with_reducible apply le_size_setCell | refine Nat.le_trans ?_ (Below.size (by assumption)))); have zw1 := bw1.size; have p0w1 := cell_keep bw1 p0 zV; have p1w1 := cell_keep bw1 p1 zV; have yw1 : w.heap.size < w1.heap.size := Nat.lt_of_lt_of_le zV zw1) | (go_at_call 45; refine (frame_b _ _ d1 _).mono ?_; rintro e w' ⟨rfl, rfl⟩) | (go_at_call 46; refine (place_b _ _ _ d2 _).mono ?_; rintro e w' ⟨rfl, rfl⟩) | (go_at_call 48; refine (at_any A c l _ _ _ (HSV.out.1.ext (by repeat' (first | with_reducible exact Below.refl _ _ | with_reducible assumption | with_reducible apply Below.drew | with_reducible apply below_drewN | with_reducible apply Below.alloc | with_reducible apply Below.setCell | (with_reducible refine Below.trans ?_ (Below.mono (by assumption) ?_)) | (simp; done) | (simp; omega) | omega | with_reducible apply le_size_alloc | with_reducible apply le_size_drewN | with_reducible apply le_size_drew | with_reducible apply le_size_setCell | refine Nat.le_trans ?_ (Below.size (by assumption))))) la HI.out).mono ?_; rintro e w2 ⟨rfl, hb2⟩; have bw2 : Below V.heap.size V w2 := (by repeat' (first | with_reducible exact Below.refl _ _ | with_reducible assumption | with_reducible apply Below.drew | with_reducible apply below_drewN | with_reducible apply Below.alloc | with_reducible apply Below.setCell | (with_reducible refine Below.trans ?_ (Below.mono (by assumption) ?_)) | (simp; done) | (simp; omega) | omega | with_reducible apply le_size_alloc | with_reducible apply le_size_drewN | with_reducible apply le_size_drew | with_reducible apply le_size_setCell | refine Nat.le_trans ?_ (Below.size (by assumption)))); have zw2 := bw2.size; have p0w2 := cell_keep bw2 p0 zV; have p1w2 := cell_keep bw2 p1 zV; have yw2 : w.heap.size < w2.heap.size := Nat.lt_of_lt_of_le zV zw2))
          refine bodyPost_ret (v := .tuple #[.slice none 0 0, .int .i64 7]) (by simp [results, Try.results28, go_sem]) rfl ?_
          exact LePost.bad HR.out (BV.trans (bw2.mono BV.size))
  · have HR : Hid (addM l f (p, q) = ([], y)) := by show _ = _; unfold addM; rw [hk, if_pos y0]
    have yb : (y != 0) = true := by simpa using y0
    clear hk
    go_enter Try.func28, Try.ntmps28
    go_wp2_with (first | (go_at_call 13; refine (RCheck_any A c l _ (HSV.out.ext (by repeat' (first | with_reducible exact Below.refl _ _ | with_reducible assumption | with_reducible apply Below.drew | with_reducible apply below_drewN | with_reducible apply Below.alloc | with_reducible apply Below.setCell | (with_reducible refine Below.trans ?_ (Below.mono (by assumption) ?_)) | (simp; done) | (simp; omega) | omega | with_reducible apply le_size_alloc | with_reducible apply le_size_drewN | with_reducible apply le_size_drew | with_reducible apply le_size_setCell | refine Nat.le_trans ?_ (Below.size (by assumption))))) la HK.out).mono ?_; rintro e w1 ⟨rfl, hb1⟩; have bw1 : Below V.heap.size V w1 := (by repeat' (first | with_reducible exact Below.refl _ _ | with_reducible assumption | with_reducible apply Below.drew | with_reducible apply below_drewN | with_reducible apply Below.alloc | with_reducible apply Below.setCell | (with_reducible refine Below.trans ?_ (Below.mono (by assumption) ?_)) | (simp; done) | (simp; omega) | omega | with_reducible apply le_size_alloc | with_reducible apply le_size_drewN | with_reducible apply le_size_drew | with_reducible apply le_size_setCell | refine Nat.le_trans ?_ (Below.size (by assumption)))); have zw1 := bw1.size; have p0w1 := cell_keep bw1 p0 zV; have p1w1 := cell_keep bw1 p1 zV; have yw1 : w.heap.size < w1.heap.size := Nat.lt_of_lt_of_le zV zw1))
    refine bodyPost_ret (v := .tuple #[.slice none 0 0, .int .i64 y]) (by simp [results, Try.results28, go_sem]) rfl ?_
    exact LePost.bad HR.out (BV.trans (bw1.mono BV.size))

set_option maxRecDepth 100000 in
set_option maxHeartbeats 2000000 in
theorem RFind_any (A : Option Addr) (c : Nat) (l : List M3) (p q : Int) (w : World) (ha : CR mapE w A c l) (la : l.length ≤ 1000) {f z : Int} (h : fndM l (p, q) = (f, z)) :
    Calls Try.prog 15 #[.slice A l.length c, .agg #[.int .i64 p, .int .i64 q]] w fun e w' => e = .returned (.tuple #[.int .i64 f, .int .i64 z]) ∧ Below w.heap.size w w' := by
  have HS := Lib.hid ha
  have hcap := ha.2
  clear ha
  obtain ⟨V, hV⟩ : ∃ V, w.alloc (.cells #[.int .i64 p, .int .i64 q] 24) = V := ⟨_, rfl⟩
  have BV : Below w.heap.size w V := by rw [← hV]; exact (Below.refl _ w).alloc (Nat.le_refl _) _
  have kV : Blk V w.heap.size 24 #[.int .i64 p, .int .i64 q] := by rw [← hV]; exact Blk.new_ rfl rfl
  have zV : w.heap.size < V.heap.size := kV.lt
  have p0 : V.cell? ⟨w.heap.size, 0, none⟩ = some (.int .i64 p) := by simpa using kV.cell_ 0
  have p1 : V.cell? ⟨w.heap.size, 1, none⟩ = some (.int .i64 q) := by simpa using kV.cell_ 1
  have HSV := Lib.hid (HS.out.ext BV)
  obtain ⟨⟨y, n⟩, hk⟩ : ∃ r, chkM l = r := ⟨_, rfl⟩
  have HK := Lib.hid hk
  by_cases y0 : y = 0
  · subst y0
    cases d2 : okP (p, q) with
    | false =>
      have hr : fndM l (p, q) = (0, 2) := by unfold fndM; rw [hk, if_neg (by simp), if_neg (by simp [d2])]
      rw [hr] at h
      obtain ⟨rfl, rfl⟩ := Prod.mk.inj h
      clear hk hr h
      go_enter Try.func15, Try.ntmps15
      go_wp2_with (first | (go_at_call 13; refine (RCheck_any A c l _ (HSV.out.ext (by repeat' (first | with_reducible exact Below.refl _ _ | with_reducible assumption | with_reducible apply Below.drew | with_reducible apply below_drewN | with_reducible apply Below.alloc | with_reducible apply Below.setCell | (with_reducible refine Below.trans ?_ (Below.mono (by assumption) ?_)) | (simp; done) | (simp; omega) | omega | with_reducible apply le_size_alloc | with_reducible apply le_size_drewN | with_reducible apply le_size_drew | with_reducible apply le_size_setCell | refine Nat.le_trans ?_ (Below.size (by assumption))))) la HK.out).mono ?_; rintro e w1 ⟨rfl, hb1⟩; have bw1 : Below V.heap.size V w1 := (by repeat' (first | with_reducible exact Below.refl _ _ | with_reducible assumption | with_reducible apply Below.drew | with_reducible apply below_drewN | with_reducible apply Below.alloc | with_reducible apply Below.setCell | (with_reducible refine Below.trans ?_ (Below.mono (by assumption) ?_)) | (simp; done) | (simp; omega) | omega | with_reducible apply le_size_alloc | with_reducible apply le_size_drewN | with_reducible apply le_size_drew | with_reducible apply le_size_setCell | refine Nat.le_trans ?_ (Below.size (by assumption)))); have zw1 := bw1.size; have p0w1 := cell_keep bw1 p0 zV; have p1w1 := cell_keep bw1 p1 zV; have yw1 : w.heap.size < w1.heap.size := Nat.lt_of_lt_of_le zV zw1) | (go_at_call 46; refine (place_b _ _ _ d2 _).mono ?_; rintro e w' ⟨rfl, rfl⟩))
      refine bodyPost_ret (v := .tuple #[.int .i64 0, .int .i64 2]) (by simp [results, Try.results15, go_sem]) rfl ?_
      exact ⟨rfl, BV.trans ((show Below V.heap.size V _ from (by repeat' (first | with_reducible exact Below.refl _ _ | with_reducible assumption | with_reducible apply Below.drew | with_reducible apply below_drewN | with_reducible apply Below.alloc | with_reducible apply Below.setCell | (with_reducible refine Below.trans ?_ (Below.mono (by assumption) ?_)) | (simp; done) | (simp; omega) | omega | with_reducible apply le_size_alloc | with_reducible apply le_size_drewN | with_reducible apply le_size_drew | with_reducible apply le_size_setCell | refine Nat.le_trans ?_ (Below.size (by assumption))))).mono BV.size)⟩
    | true =>
      rcases idxM_cases l (p, q) with ⟨_, h2, hi⟩ | ⟨i, x, hx, _, h2, hi, _⟩
      · have hr : fndM l (p, q) = (0, 6) := by unfold fndM; rw [hk, if_neg (by simp), if_pos d2, h2]
        rw [hr] at h
        obtain ⟨rfl, rfl⟩ := Prod.mk.inj h
        have HI := Lib.hid hi
        clear hk hr h h2 hi
        go_enter Try.func15, Try.ntmps15
        go_wp2_with (first | (go_at_call 13; refine (RCheck_any A c l _ (HSV.out.ext (by repeat' (first | with_reducible exact Below.refl _ _ | with_reducible assumption | with_reducible apply Below.drew | with_reducible apply below_drewN | with_reducible apply Below.alloc | with_reducible apply Below.setCell | (with_reducible refine Below.trans ?_ (Below.mono (by assumption) ?_)) | (simp; done) | (simp; omega) | omega | with_reducible apply le_size_alloc | with_reducible apply le_size_drewN | with_reducible apply le_size_drew | with_reducible apply le_size_setCell | refine Nat.le_trans ?_ (Below.size (by assumption))))) la HK.out).mono ?_; rintro e w1 ⟨rfl, hb1⟩; have bw1 : Below V.heap.size V w1 := (by repeat' (first | with_reducible exact Below.refl _ _ | with_reducible assumption | with_reducible apply Below.drew | with_reducible apply below_drewN | with_reducible apply Below.alloc | with_reducible apply Below.setCell | (with_reducible refine Below.trans ?_ (Below.mono (by assumption) ?_)) | (simp; done) | (simp; omega) | omega | with_reducible apply le_size_alloc | with_reducible apply le_size_drewN | with_reducible apply le_size_drew | with_reducible apply le_size_setCell | refine Nat.le_trans ?_ (Below.size (by assumption)))); have zw1 := bw1.size; have p0w1 := cell_keep bw1 p0 zV; have p1w1 := cell_keep bw1 p1 zV; have yw1 : w.heap.size < w1.heap.size := Nat.lt_of_lt_of_le zV zw1) | (go_at_call 46; refine (place_b _ _ _ d2 _).mono ?_; rintro e w' ⟨rfl, rfl⟩) | (go_at_call 48; refine (at_any A c l _ _ _ (HSV.out.1.ext (by repeat' (first | with_reducible exact Below.refl _ _ | with_reducible assumption | with_reducible apply Below.drew | with_reducible apply below_drewN | with_reducible apply Below.alloc | with_reducible apply Below.setCell | (with_reducible refine Below.trans ?_ (Below.mono (by assumption) ?_)) | (simp; done) | (simp; omega) | omega | with_reducible apply le_size_alloc | with_reducible apply le_size_drewN | with_reducible apply le_size_drew | with_reducible apply le_size_setCell | refine Nat.le_trans ?_ (Below.size (by assumption))))) la HI.out).mono ?_; rintro e w2 ⟨rfl, hb2⟩; have bw2 : Below V.heap.size V w2 := (by repeat' (first | with_reducible exact Below.refl _ _ | with_reducible assumption | with_reducible apply Below.drew | with_reducible apply below_drewN | with_reducible apply Below.alloc | with_reducible apply Below.setCell | (with_reducible refine Below.trans ?_ (Below.mono (by assumption) ?_)) | (simp; done) | (simp; omega) | omega | with_reducible apply le_size_alloc | with_reducible apply le_size_drewN | with_reducible apply le_size_drew | with_reducible apply le_size_setCell | refine Nat.le_trans ?_ (Below.size (by assumption)))); have zw2 := bw2.size; have p0w2 := cell_keep bw2 p0 zV; have p1w2 := cell_keep bw2 p1 zV; have yw2 : w.heap.size < w2.heap.size := Nat.lt_of_lt_of_le zV zw2))
        refine bodyPost_ret (v := .tuple #[.int .i64 0, .int .i64 6]) (by simp [results, Try.results15, go_sem]) rfl ?_
        exact ⟨rfl, BV.trans (bw2.mono BV.size)⟩
      · have hr : fndM l (p, q) = (x.1, 0) := by unfold fndM; rw [hk, if_neg (by simp), if_pos d2, h2]
        rw [hr] at h
        obtain ⟨rfl, rfl⟩ := Prod.mk.inj h
        have hlt := (List.getElem?_eq_some_iff.1 hx).1
        obtain ⟨b, off, x', rfl, hbl, hx', q0, q1, q2⟩ := map_at HSV.out.1 hlt
        rw [hx] at hx'
        injection hx' with hx'
        subst hx'
        have HI := Lib.hid hi
        have j1 : (i : Int) < l.length := by omega
        have j2 : ¬ ((i : Int) < 0) := by omega
        clear hk hr h h2 hi hx
        go_enter Try.func15, Try.ntmps15
        go_wp2_with (first | (go_at_call 13; refine (RCheck_any (some ⟨b, off, none⟩) c l _ (HSV.out.ext (by repeat' (first | with_reducible exact Below.refl _ _ | with_reducible assumption | with_reducible apply Below.drew | with_reducible apply below_drewN | with_reducible apply Below.alloc | with_reducible apply Below.setCell | (with_reducible refine Below.trans ?_ (Below.mono (by assumption) ?_)) | (simp; done) | (simp; omega) | omega | with_reducible apply le_size_alloc | with_reducible apply le_size_drewN | with_reducible apply le_size_drew | with_reducible apply le_size_setCell | refine Nat.le_trans ?_ (Below.size (by assumption))))) la HK.out).mono ?_; rintro e w1 ⟨rfl, hb1⟩; have bw1 : Below V.heap.size V w1 := (by repeat' (first | with_reducible exact Below.refl _ _ | with_reducible assumption | with_reducible apply Below.drew | with_reducible apply below_drewN | with_reducible apply Below.alloc | with_reducible apply Below.setCell | (with_reducible refine Below.trans ?_ (Below.mono (by assumption) ?_)) | (simp; done) | (simp; omega) | omega | with_reducible apply le_size_alloc | with_reducible apply le_size_drewN | with_reducible apply le_size_drew | with_reducible apply le_size_setCell | refine Nat.le_trans ?_ (Below.size (by assumption)))); have zw1 := bw1.size; have p0w1 := cell_keep bw1 p0 zV; have p1w1 := cell_keep bw1 p1 zV; have yw1 : w.heap.size < w1.heap.size := Nat.lt_of_lt_of_le zV zw1) | (go_at_call 46; refine (place_b _ _ _ d2 _).mono ?_; rintro e w' ⟨rfl, rfl⟩) | (go_at_call 48; refine (at_any (some ⟨b, off, none⟩) c l _ _ _ (HSV.out.1.ext (by repeat' (first | with_reducible exact Below.refl _ _ | with_reducible assumption | with_reducible apply Below.drew | with_reducible apply below_drewN | with_reducible apply Below.alloc | with_reducible apply Below.setCell | (with_reducible refine Below.trans ?_ (Below.mono (by assumption) ?_)) | (simp; done) | (simp; omega) | omega | with_reducible apply le_size_alloc | with_reducible apply le_size_drewN | with_reducible apply le_size_drew | with_reducible apply le_size_setCell | refine Nat.le_trans ?_ (Below.size (by assumption))))) la HI.out).mono ?_; rintro e w2 ⟨rfl, hb2⟩; have bw2 : Below V.heap.size V w2 := (by repeat' (first | with_reducible exact Below.refl _ _ | with_reducible assumption | with_reducible apply Below.drew | with_reducible apply below_drewN | with_reducible apply Below.alloc | with_reducible apply Below.setCell | (with_reducible refine Below.trans ?_ (Below.mono (by assumption) ?_)) | (simp; done) | (simp; omega) | omega | with_reducible apply le_size_alloc | with_reducible apply le_size_drewN | with_reducible apply le_size_drew | with_reducible apply le_size_setCell | refine Nat.le_trans ?_ (Below.size (by assumption)))); have zw2 := bw2.size; have r0 := cell_keep bw2 q0 hbl; have p0w2 := cell_keep bw2 p0 zV; have p1w2 := cell_keep bw2 p1 zV; have yw2 : w.heap.size < w2.heap.size := Nat.lt_of_lt_of_le zV zw2))
        refine bodyPost_ret (v := .tuple #[.int .i64 x.1, .int .i64 0]) (by simp [results, Try.results15, go_sem]) rfl ?_
        exact ⟨rfl, BV.trans (bw2.mono BV.size)⟩
  · have hr : fndM l (p, q) = (0, y) := by unfold fndM; rw [hk, if_pos y0]
    rw [hr] at h
    obtain ⟨rfl, rfl⟩ := Prod.mk.inj h
    have yb : (y != 0) = true := by simpa using y0
    clear hk hr h
    go_enter Try.func15, Try.ntmps15
    go_wp2_with (first | (go_at_call 13; refine (RCheck_any A c l _ (HSV.out.ext (by repeat' (first | with_reducible exact Below.refl _ _ | with_reducible assumption | with_reducible apply Below.drew | with_reducible apply below_drewN | with_reducible apply Below.alloc | with_reducible apply Below.setCell | (with_reducible refine Below.trans ?_ (Below.mono (by assumption) ?_)) | (simp; done) | (simp; omega) | omega | with_reducible apply le_size_alloc | with_reducible apply le_size_drewN | with_reducible apply le_size_drew | with_reducible apply le_size_setCell | refine Nat.le_trans ?_ (Below.size (by assumption))))) la HK.out).mono ?_; rintro e w1 ⟨rfl, hb1⟩; have bw1 : Below V.heap.size V w1 := (by repeat' (first | with_reducible exact Below.refl _ _ | with_reducible assumption | with_reducible apply Below.drew | with_reducible apply below_drewN | with_reducible apply Below.alloc | with_reducible apply Below.setCell | (with_reducible refine Below.trans ?_ (Below.mono (by assumption) ?_)) | (simp; done) | (simp; omega) | omega | with_reducible apply le_size_alloc | with_reducible apply le_size_drewN | with_reducible apply le_size_drew | with_reducible apply le_size_setCell | refine Nat.le_trans ?_ (Below.size (by assumption)))); have zw1 := bw1.size; have p0w1 := cell_keep bw1 p0 zV; have p1w1 := cell_keep bw1 p1 zV; have yw1 : w.heap.size < w1.heap.size := Nat.lt_of_lt_of_le zV zw1))
    refine bodyPost_ret (v := .tuple #[.int .i64 0, .int .i64 y]) (by simp [results, Try.results15, go_sem]) rfl ?_
    exact ⟨rfl, BV.trans (bw1.mono BV.size)⟩
end Go.Proofs.Ytbeddhamnefpiaa
