/- Package oom: Scores. -/
import Derived.Test.YtmbpjafiinfkkaaGreatDoorOP2
import Derived.Deep.WholeRow
namespace Go.Proofs.YtmbpjafiinfkkaaGreatDoor
set_option linter.unusedSimpArgs false
set_option linter.unusedVariables false
open Go.RowKit Go.Maps

theorem wpList_store_new {P : Program} {ops : Array Oper} {rest : List Oper} {op : Oper} {a : Act} {Q : Exit → Act → World → Prop} (w : World) (hgd : op.guard = none) (ty : TypeId) (x y : Operand) (ho : op.op = .store ty x y) (c c' : Array Value)
    (hx : a.eval x = .pointer (some ⟨w.heap.size, 0, none⟩)) (hy : a.eval y = .agg c') (hi : (P.info? ty).map (·.size) = some c'.size) (hsz : c.size = c'.size) (h1 : c'.all (·.oneCell') = true)
    (h : wpList P ops Q rest (a.put op.dst undef) (w.alloc (.cells c' ty))) : wpList P ops Q (op :: rest) a (w.alloc (.cells c ty)) := by
  refine wpList_plain hgd fun K' hK => ?_
  unfold Oper.wp execOp
  simp only [ho, hx, hy, Sem.run_bind, Result.andThen_ok, run_storeAt_new w ty c c' hi hsz h1]
  exact hK _ _ h
theorem sz75' (p : PV) : (Tryz.prog.info? 41).map (·.size) = some (pvC p).toArray.size := by rw [List.size_toArray]; exact sz75 p
theorem all75 (p : PV) : (pvC p).toArray.all (·.oneCell') = true := all_oneCell_toArray (pvC_one p)
theorem size75 (p : PV) : 75 = (pvC p).toArray.size := by rw [List.size_toArray, pvC_len]
theorem proc_at {w : World} {A : Option Addr} {l : List PV} {k : Nat} (h : SR procE w A l) (hk : k < l.length) :
    ∃ b off x, A = some ⟨b, off, none⟩ ∧ b < w.heap.size ∧ l[k]? = some x ∧ w.rangeAt b (off + k * 75) (pvC x) := by
  obtain ⟨b, off, x, e, hb, hx, hc⟩ := h.at_ hk
  exact ⟨b, off, x, e, hb, hx, fun j v hv => hc j v hv⟩

def scsL (l : List PV) : List Int := l.map (fun p => scoN p.es)
def scsE (l : List PV) : Int := fstNZ (l.map (fun p => scoE p.es))
/-- The error of a list of processes. -/
def scrE (l : List PV) : Int := if l.length < 1 ∨ 8 < l.length then 2 else scsE l
def ScrPost (l : List PV) (w : World) (e : Ending) (w' : World) : Prop :=
  (∃ A c, e = .returned (.tuple #[.slice A (if scrE l = 0 then l.length else 0) c, .int .i64 (scrE l)]) ∧ (scrE l = 0 → Sl w' (.int .i64) A (scsL l))) ∧ Below w.heap.size w w'
/-- The row of the scores while it is filled. -/
def rowZ (l : List Int) (n : Nat) : Array Value := ((l ++ List.replicate n 0).map (fun x => Value.int .i64 x)).toArray
theorem rowZ_set (l : List Int) (n : Nat) (x : Int) : (rowZ l (n + 1)).setIfInBounds l.length (.int .i64 x) = rowZ (l ++ [x]) n := by
  unfold rowZ
  rw [List.setIfInBounds_toArray]
  congr 1
  simp [List.replicate_succ, List.set_append]
theorem rowZ_at (l : List Int) (n : Nat) : (rowZ l (n + 1))[l.length]? = some (.int .i64 0) := by
  unfold rowZ
  simp [List.replicate_succ]
theorem rowZ_all (l : List Int) : rowZ l 0 = (l.map (fun x => Value.int .i64 x)).toArray := by simp [rowZ]
theorem rowZ_size (l : List Int) (n : Nat) : (rowZ l n).size = l.length + n := by simp [rowZ]
theorem made_rowZ (n : Nat) (w : World) (hn : n ≤ 8) : (Instr.makeSlice 23 (.int .i64 n) (.int .i64 n)).run Tryz.prog w = .ok (.slice (some ⟨w.heap.size, 0, none⟩) n n) (w.alloc (.cells (rowZ [] n) 3)) := by
  obtain ⟨i0, hi, hz0, hz1, hz2⟩ := info_parts (show (Tryz.prog.info? 3).map (fun i => (i.zero, i.size, i.bytes)) = some (some (.int .i64 0), 1, 8) by kernel_rfl)
  have h := run_makeSlice (P := Tryz.prog) (w := w) 23 3 i0 _ Tryz.underlying23 hi hz0 .i64 .i64 n n (by omega) (by omega) (by rw [hz1]; simp; omega) (by rw [hz2]; simp; omega) (by omega)
  rw [h, hz1]
  have e : madeCells (Value.int .i64 0).cells ((n : Int).toNat * 1) = rowZ [] n := by
    simp [madeCells, rowZ, Value.cells]
    exact Array.ext (by simp) (fun i h1 h2 => by simp [Nat.mod_one])
  rw [e]
  rfl

set_option maxRecDepth 100000 in
set_option maxHeartbeats 8000000 in
theorem Scores_any (A : Option Addr) (c : Nat) (l : List PV) (w : World) (hal : AL w) (hs : SR procE w A l) (ll : l.length ≤ 1000) : Calls Tryz.prog 13 #[.slice A l.length c] w (ScrPost l w) := by
  by_cases h1 : l.length < 1 ∨ 8 < l.length
  · have e : scrE l = 2 := if_pos h1
    have HP : ∀ e w', e = .returned (.tuple #[.slice none 0 0, .int .i64 2]) → Below w.heap.size w w' → ScrPost l w e w' := fun e' w' he hb => by
      unfold ScrPost
      rw [e]
      exact ⟨⟨none, 0, he, fun h => by simp at h⟩, hb⟩
    clear e
    rcases h1 with h1 | h1
    all_goals
      go_enter Tryz.func13, Tryz.ntmps13
      go_wp2
      refine bodyPost_ret (v := .tuple #[.slice none 0 0, .int .i64 2]) (by simp [results, Tryz.results13, go_sem]) rfl ?_
      exact HP _ _ rfl (by repeat' (first | with_reducible exact Below.refl _ _ | with_reducible assumption | with_reducible apply Below.drew | with_reducible apply below_drewN | with_reducible apply Below.alloc | with_reducible apply Below.setCell | (with_reducible refine Below.trans ?_ (Below.mono (by assumption) ?_)) | (simp; done) | (simp; omega) | omega | with_reducible apply le_size_alloc | with_reducible apply le_size_drewN | with_reducible apply le_size_drew | with_reducible apply le_size_setCell | refine Nat.le_trans ?_ (Below.size (by assumption))))
  · have e : scrE l = scsE l := if_neg h1
    obtain ⟨n1, n8⟩ : 1 ≤ l.length ∧ l.length ≤ 8 := by omega
    obtain ⟨z, hz⟩ : ∃ z, scsE l = z := ⟨_, rfl⟩
    have HP : ∀ e w', ((∃ A c, e = .returned (.tuple #[.slice A (if z = 0 then l.length else 0) c, .int .i64 z]) ∧ (z = 0 → Sl w' (.int .i64) A (scsL l))) ∧ Below w.heap.size w w') → ScrPost l w e w' := fun e' w' h => by
      unfold ScrPost
      rw [e, hz]
      exact h
    have HZ := Lib.hid hz
    have HS := Lib.hid hs
    clear hz hs e h1
    have hmk := made_rowZ l.length w n8
    go_enter Tryz.func13, Tryz.ntmps13
    go_wp2
    have zB : (w.alloc (.cells (rowZ [] l.length) 3)).heap.size = w.heap.size + 1 := by simp
    go_loopw [22] (fun i wr => ∃ k : Nat, k ≤ l.length ∧ i = .int .i64 k ∧ Hid (Blk wr w.heap.size 3 (rowZ (scsL (l.take k)) (l.length - k))) ∧ Hid (∀ y ∈ (l.map (fun p => scoE p.es)).take k, y = 0) ∧ Below w.heap.size w wr) (fun i _ => l.length - (intOf i).toNat)
    case atStart => exact ⟨0, by omega, rfl, by show Blk _ _ _ _; simpa [scsL] using (Blk.new_ rfl rfl : Blk (w.alloc (.cells (rowZ [] l.length) 3)) w.heap.size _ _), by show ∀ y ∈ _, _; simp, (by repeat' (first | with_reducible exact Below.refl _ _ | with_reducible assumption | with_reducible apply Below.drew | with_reducible apply below_drewN | with_reducible apply Below.alloc | with_reducible apply Below.setCell | (with_reducible refine Below.trans ?_ (Below.mono (by assumption) ?_)) | (simp; done) | (simp; omega) | omega | with_reducible apply le_size_alloc | with_reducible apply le_size_drewN | with_reducible apply le_size_drew | with_reducible apply le_size_setCell | refine Nat.le_trans ?_ (Below.size (by assumption))))⟩
    case round =>
      obtain ⟨k, hk, rfl, HB, HR, hbw⟩ := hrel
      have wra : AL wr := hal.ext hbw
      have zw : w.heap.size < wr.heap.size := HB.out.lt
      by_cases hlt : k < l.length
      · obtain ⟨b, off, x, rfl, hbl, hx, hR⟩ := proc_at (HS.out.ext hbw) hlt
        have i1 : (k : Int) < l.length := by omega
        have hxe : (l.map (fun p => scoE p.es))[k]? = some (scoE x.es) := by rw [List.getElem?_map, hx]; rfl
        obtain ⟨m, hm⟩ : ∃ m, l.length - k = m + 1 := ⟨l.length - k - 1, by omega⟩
        have hl0 : (scsL (l.take k)).length = k := by unfold scsL; rw [List.length_map, List.length_take]; omega
        have hl1 : scsL (l.take (k + 1)) = scsL (l.take k) ++ [scoN x.es] := by unfold scsL; rw [take_snocG hx, List.map_append]; rfl
        have hm1 : l.length - (k + 1) = m := by omega
        have hSc := Score_any x
        unfold pvV at hSc
        by_cases e0 : scoE x.es = 0
        · have HN : Hid (∀ y ∈ (l.map (fun p => scoE p.es)).take (k + 1), y = 0) := take_zero HR.out (by rw [hxe, e0])
          rw [e0, if_pos rfl] at hSc
          rw [hm] at HB
          have HM := Lib.hid hm1
          have H1 := Lib.hid hl1
          obtain ⟨sL, hsL⟩ : ∃ sL, scsL (l.take k) = sL := ⟨_, rfl⟩
          rw [hsL] at HB H1 hl0
          have c0 := rowZ_at sL m
          rw [hl0] at c0
          have HL0 := Lib.hid hl0
          clear hxe hx HR hm hl0 hl1 hsL e0 hm1
          go_wp2_with (first
            | (refine wpList_load_mid rfl 41 _ rfl b (off + k * 75) rfl (pvC x) _ hR Tryz.underlying41 rfl (sz75 x) ?_)
            | (refine wpList_store_new _ rfl 41 _ _ rfl _ _ rfl rfl (sz75' x) (size75 x) (all75 x) ?_)
            | (refine wpList_load_mid rfl 41 _ rfl wr.heap.size 0 rfl (pvC x) _ (Blk.rangePV (Blk.new_ rfl rfl)) Tryz.underlying41 rfl (sz75 x) ?_)
            | (go_at_call 20; refine (hSc _ (wra.ext (by repeat' (first | with_reducible exact Below.refl _ _ | with_reducible assumption | with_reducible apply Below.drew | with_reducible apply below_drewN | with_reducible apply Below.alloc | with_reducible apply Below.setCell | (with_reducible refine Below.trans ?_ (Below.mono (by assumption) ?_)) | (simp; done) | (simp; omega) | omega | with_reducible apply le_size_alloc | with_reducible apply le_size_drewN | with_reducible apply le_size_drew | with_reducible apply le_size_setCell | refine Nat.le_trans ?_ (Below.size (by assumption)))))).mono ?_; rintro e w1 ⟨rfl, hb1⟩; have kB := (HB.out.alloc_ _).below_ hb1 (by simp; omega); have q0 := (kB.cell_ k).trans c0; have f0 := kB.frozen_ k; have z1 : w.heap.size < w1.heap.size := kB.lt))
          go_roundw
          case rel =>
            refine ⟨k + 1, by omega, by go_num, ?_, HN.out, (by repeat' (first | with_reducible exact Below.refl _ _ | with_reducible assumption | with_reducible apply Below.drew | with_reducible apply below_drewN | with_reducible apply Below.alloc | with_reducible apply Below.setCell | (with_reducible refine Below.trans ?_ (Below.mono (by assumption) ?_)) | (simp; done) | (simp; omega) | omega | with_reducible apply le_size_alloc | with_reducible apply le_size_drewN | with_reducible apply le_size_drew | with_reducible apply le_size_setCell | refine Nat.le_trans ?_ (Below.size (by assumption))))⟩
            show Blk _ _ _ _
            rw [HM.out, H1.out, ← rowZ_set, HL0.out]
            exact kB.set_ k _
          case measure => simp [intOf]; omega
        · have hzu : z = scoE x.es := by rw [← HZ.out]; exact fstNZ_at HR.out hxe e0
          rw [if_neg e0] at hSc
          generalize scoE x.es = u at *
          subst hzu
          have hub : (z != 0) = true := by simpa using e0
          have HE : Hid (z ≠ 0) := e0
          clear hxe hx e0 HR hm hl0 hl1 hm1
          go_wp2_with (first
            | (refine wpList_load_mid rfl 41 _ rfl b (off + k * 75) rfl (pvC x) _ hR Tryz.underlying41 rfl (sz75 x) ?_)
            | (refine wpList_store_new _ rfl 41 _ _ rfl _ _ rfl rfl (sz75' x) (size75 x) (all75 x) ?_)
            | (refine wpList_load_mid rfl 41 _ rfl wr.heap.size 0 rfl (pvC x) _ (Blk.rangePV (Blk.new_ rfl rfl)) Tryz.underlying41 rfl (sz75 x) ?_)
            | (go_at_call 20; refine (hSc _ (wra.ext (by repeat' (first | with_reducible exact Below.refl _ _ | with_reducible assumption | with_reducible apply Below.drew | with_reducible apply below_drewN | with_reducible apply Below.alloc | with_reducible apply Below.setCell | (with_reducible refine Below.trans ?_ (Below.mono (by assumption) ?_)) | (simp; done) | (simp; omega) | omega | with_reducible apply le_size_alloc | with_reducible apply le_size_drewN | with_reducible apply le_size_drew | with_reducible apply le_size_setCell | refine Nat.le_trans ?_ (Below.size (by assumption)))))).mono ?_; rintro e w1 ⟨rfl, hb1⟩))
          refine bodyPost_ret (v := .tuple #[.slice none 0 0, .int .i64 z]) (by simp [results, Tryz.results13, go_sem]) rfl ?_
          exact HP _ _ ⟨⟨none, 0, by rw [if_neg HE.out], fun h => absurd h HE.out⟩, (by repeat' (first | with_reducible exact Below.refl _ _ | with_reducible assumption | with_reducible apply Below.drew | with_reducible apply below_drewN | with_reducible apply Below.alloc | with_reducible apply Below.setCell | (with_reducible refine Below.trans ?_ (Below.mono (by assumption) ?_)) | (simp; done) | (simp; omega) | omega | with_reducible apply le_size_alloc | with_reducible apply le_size_drewN | with_reducible apply le_size_drew | with_reducible apply le_size_setCell | refine Nat.le_trans ?_ (Below.size (by assumption))))⟩
      · obtain rfl : k = l.length := by omega
        have hzz : z = 0 := by
          rw [← HZ.out]
          have := HR.out
          rw [List.take_of_length_le (by simp)] at this
          exact fstNZ_all this
        subst hzz
        have hB := HB.out
        rw [List.take_length, Nat.sub_self, rowZ_all] at hB
        have HBB : Hid (Sl wr (.int .i64) (some ⟨w.heap.size, 0, none⟩) (scsL l)) := Sl.of_lit hB
        clear hB HB HR hlt
        go_wp2
        refine bodyPost_ret (v := .tuple #[.slice (some ⟨w.heap.size, 0, none⟩) l.length l.length, .int .i64 0]) (by simp [results, Tryz.results13, go_sem]) rfl ?_
        exact HP _ _ ⟨⟨some ⟨w.heap.size, 0, none⟩, l.length, by simp, fun _ => HBB.out⟩, (by repeat' (first | with_reducible exact Below.refl _ _ | with_reducible assumption | with_reducible apply Below.drew | with_reducible apply below_drewN | with_reducible apply Below.alloc | with_reducible apply Below.setCell | (with_reducible refine Below.trans ?_ (Below.mono (by assumption) ?_)) | (simp; done) | (simp; omega) | omega | with_reducible apply le_size_alloc | with_reducible apply le_size_drewN | with_reducible apply le_size_drew | with_reducible apply le_size_setCell | refine Nat.le_trans ?_ (Below.size (by assumption))))⟩
end Go.Proofs.YtmbpjafiinfkkaaGreatDoor
