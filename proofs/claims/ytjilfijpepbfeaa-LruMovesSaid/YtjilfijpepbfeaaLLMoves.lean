/- LruMoves: the statement holds for every list of numbers. -/
import Derived.Test.YtjilfijpepbfeaaLruW
import Derived.Test.YtjilfijpepbfeaaLLUndo
import Derived.Test.YtjilfijpepbfeaaLruS2
import Derived.Deep.DeepCutAuto
import Derived.Deep.CutBlock
namespace Go.Proofs.Ytjilfijpepbfeaa
open Go.RowKit Go.Maps
open Go.ChangeShapes Go.WideShapes Go.ChangeAt Go.Joins

/-- What Demote gives back, whatever the lists are. -/
def DemRel (xs ys : List Int) (rs : List Bool) (w' : World) (base : Nat) (B1 B2 B3 : Option Addr) (n1 n2 n3 d1 d2 d3 : Nat) (f z : Int) : Prop :=
  (z = 0 ∧ 0 < xs.length ∧ n1 = (dX xs ys).length ∧ n2 = (dY xs ys).length ∧ n3 = (rs.set f.toNat false).length ∧ f = xs.getD (xs.length - 1) 0 ∧ OwnL w' base B1 d1 B2 d2 B3 d3 (dX xs ys) (dY xs ys) (rs.set f.toNat false)) ∨ (z = 6 ∧ xs.length ≤ 0)
def ProRel (xs ys : List Int) (rs : List Bool) (w' : World) (base : Nat) (B1 B2 B3 : Option Addr) (n1 n2 n3 d1 d2 d3 : Nat) (f z : Int) : Prop :=
  (z = 0 ∧ 0 < ys.length ∧ n1 = (pX xs ys).length ∧ n2 = (pY xs ys).length ∧ n3 = (rs.set f.toNat false).length ∧ f = ys.getD (ys.length - 1) 0 ∧ OwnL w' base B1 d1 B2 d2 B3 d3 (pX xs ys) (pY xs ys) (rs.set f.toNat false)) ∨ (z = 6 ∧ ys.length ≤ 0)
def MovePost (R : World → Nat → Option Addr → Option Addr → Option Addr → Nat → Nat → Nat → Nat → Nat → Nat → Int → Int → Prop) (w : World) (e : Ending) (w' : World) : Prop :=
  ∃ B1 B2 B3 n1 n2 n3 d1 d2 d3 f z, e = .returned (.tuple #[.agg #[.slice B1 n1 d1, .slice B2 n2 d2, .slice B3 n3 d3], .int .i64 f, .int .i64 z]) ∧ R w' w.heap.size B1 B2 B3 n1 n2 n3 d1 d2 d3 f z ∧ Below w.heap.size w w'
theorem Demote_val (Aa Ai Ar : Option Addr) (ca ci cr : Nat) (xs ys : List Int) (rs : List Bool) (w : World) (hm : InMem w Aa Ai Ar xs ys rs) (hc : lruChk xs ys rs = 0) :
    Calls Try.prog 29 #[.agg #[.slice Aa xs.length ca, .slice Ai ys.length ci, .slice Ar rs.length cr]] w (MovePost (DemRel xs ys rs) w) := by
  by_cases h : 0 < xs.length
  · refine (Demote_ok _ _ _ _ _ _ _ _ _ _ hm hc h).mono ?_
    rintro e w' ⟨A1, c1, A2, c2, A3, c3, he, ho, hb⟩
    exact ⟨A1, A2, A3, _, _, _, c1, c2, c3, _, 0, he, .inl ⟨rfl, h, rfl, rfl, rfl, rfl, ho⟩, hb⟩
  · refine (Demote_none _ _ _ _ _ _ _ _ _ _ hm hc (by omega)).mono ?_
    rintro e w' ⟨he, hb⟩
    exact ⟨none, none, none, 0, 0, 0, 0, 0, 0, 0, 6, he, .inr ⟨rfl, by omega⟩, hb⟩
theorem Promote_val (Aa Ai Ar : Option Addr) (ca ci cr : Nat) (xs ys : List Int) (rs : List Bool) (w : World) (hm : InMem w Aa Ai Ar xs ys rs) (hc : lruChk xs ys rs = 0) :
    Calls Try.prog 33 #[.agg #[.slice Aa xs.length ca, .slice Ai ys.length ci, .slice Ar rs.length cr]] w (MovePost (ProRel xs ys rs) w) := by
  by_cases h : 0 < ys.length
  · refine (Promote_ok _ _ _ _ _ _ _ _ _ _ hm hc h).mono ?_
    rintro e w' ⟨A1, c1, A2, c2, A3, c3, he, ho, hb⟩
    exact ⟨A1, A2, A3, _, _, _, c1, c2, c3, _, 0, he, .inl ⟨rfl, h, rfl, rfl, rfl, rfl, ho⟩, hb⟩
  · refine (Promote_none _ _ _ _ _ _ _ _ _ _ hm hc (by omega)).mono ?_
    rintro e w' ⟨he, hb⟩
    exact ⟨none, none, none, 0, 0, 0, 0, 0, 0, 0, 6, he, .inr ⟨rfl, by omega⟩, hb⟩

theorem wo_last {xs : List Int} (hnd : xs.Nodup) (h : 0 < xs.length) : wo (xs.getD (xs.length - 1) 0) xs = xs.eraseIdx (xs.length - 1) := by
  have e := erase_last h
  generalize xs.getD (xs.length - 1) 0 = l at *
  generalize xs.eraseIdx (xs.length - 1) = d at *
  subst e
  rw [wo_drop rfl]
  have hn := (List.nodup_append.1 hnd).2.2
  exact List.filter_eq_self.2 (fun a ha => by simpa using hn a ha l (by simp))
theorem bit_set {rs : List Bool} {f : Int} (f0 : 0 ≤ f) : ∀ (k : Nat) (b : Bool), rs[k]? = some b → (rs.set f.toNat false)[k]? = some (b && !decide ((k : Int) = f)) := by
  intro k b hk
  have hl := (List.getElem?_eq_some_iff.1 hk).1
  rw [List.getElem?_set]
  by_cases e : (k : Int) = f
  · rw [if_pos (by omega), if_pos (by omega)]; simp [e]
  · rw [if_neg (by omega), hk]; simp [e]
theorem Sl.tail1 {w : World} {A : Option Addr} {x : Int} {ys : List Int} {g off : Nat} (h : Sl w (.int .i64) (some ⟨g, off, none⟩) (x :: ys)) (d : Nat) (hd : ys.length + 1 ≤ d) (hA : A = if d = 1 then some ⟨g, off, none⟩ else some ⟨g, off + 1, none⟩) : Sl w (.int .i64) A ys := fun hp => by
  obtain ⟨b, o, e, hb, hc⟩ := h (by simp)
  injection e with e; injection e with e1 e2
  subst e1 e2
  rw [if_neg (by omega)] at hA
  exact ⟨g, off + 1, hA, hb, fun j y hy => by rw [show off + 1 + j = off + (j + 1) by omega]; exact hc (j + 1) y (by simpa using hy)⟩

theorem elemI : Try.prog.elem 22 = 3 := by kernel_rfl
theorem run_tail1 (g off n d : Nat) : ∃ A' c', (∀ W, (Instr.sliceAt 22 (.slice (some ⟨g, off, none⟩) (n + 1) d) (some (.int .i64 1)) none none).run Try.prog W = .ok (.slice A' n c') W) ∧
    (∀ W, (Instr.slice 22 (.slice (some ⟨g, off, none⟩) (n + 1) d) (some (.int .i64 1)) none none).run Try.prog W = .ok (.slice A' n c') W) ∧ A' = if d = 1 then some ⟨g, off, none⟩ else some ⟨g, off + 1, none⟩ := by
  obtain ⟨i0, hi0, hz0, hz1, hz2⟩ := info_parts intInfo
  have hu : Try.prog.underlying 22 = some (.slice (Try.prog.elem 22)) := by rw [elemI]; exact Try.underlying22
  have h2 : ∀ W, (Instr.slice 22 (.slice (some ⟨g, off, none⟩) (n + 1) d) (some (.int .i64 1)) none none).run Try.prog W = .ok (.slice (if d = 1 then some ⟨g, off, none⟩ else some ⟨g, off + 1, none⟩) n (d - 1)) W := fun W => by
    rw [run_slice_l W 22 _ _ _ hu .i64 1 (by omega) (by omega), elemI]
    simp [sizeOf, typeInfo, hi0, hz1, sliced, Addr.add]
  exact ⟨_, _, fun W => by rw [run_sliceAt_slice W _ _ _ _ _ hu]; exact h2 W, h2, rfl⟩

set_option maxRecDepth 100000 in
set_option maxHeartbeats 9000000 in
theorem lruMoves_walk (A : Option Addr) (c : Nat) (nums : List Int) (w : World) (hs : Sl w (.int .i64) A nums) (_hw : ∀ x ∈ nums, (Lit.int .i64 x).wf = true) (hl0 : nums.length ≤ maxLen) :
    Calls Try.prog 5 #[.slice A nums.length c] w fun e w' => e = .returned (.bool true) ∧ Below w.heap.size w w' := by
  have hl : nums.length ≤ 9223372036854775807 := by unfold maxLen at hl0; exact hl0
  have HS := Lib.hid hs
  clear hs
  go_enter Try.func5, Try.ntmps5
  go_wp2_with fail
  refine (made_any _ _ _ _ HS.out hl).mono ?_
  rintro e w1 ⟨A1, c1, A2, c2, A3, c3, xs, ys, rs, rfl, o1, hmd, h1⟩
  have hchk := hmd.chk
  have hlen := hmd.len
  have hsz := hmd.size
  obtain ⟨hwx, hwy⟩ := hmd.wf
  have m1 := o1.mem (by omega) (by omega) (by omega) hwx hwy
  have HMD := Lib.hid hmd; have HCK := Lib.hid hchk; have HWX := Lib.hid hwx; have HWY := Lib.hid hwy; have HM1 := Lib.hid m1
  have hl1 : 16 ≤ rs.length := by omega
  have hl2 : rs.length ≤ 16 := by omega
  clear hmd hchk hwx hwy m1 hlen o1
  go_wp2_with fail
  have hb1 : Below w1.heap.size w1 (w1.alloc (.cells #[.slice A1 xs.length c1, .slice A2 ys.length c2, .slice A3 rs.length c3] 25)) := (by repeat' (first | with_reducible exact Below.refl _ _ | with_reducible assumption | with_reducible apply Below.drew | with_reducible apply below_drewN | with_reducible apply Below.alloc | with_reducible apply Below.setCell | (with_reducible refine Below.trans ?_ (Below.mono (by assumption) ?_)) | (simp; done) | (simp; omega) | omega | with_reducible apply le_size_alloc | with_reducible apply le_size_drewN | with_reducible apply le_size_drew | with_reducible apply le_size_setCell | refine Nat.le_trans ?_ (Below.size (by assumption))))
  refine (Demote_val _ _ _ _ _ _ _ _ _ _ (HM1.out.ext hb1) HCK.out).mono ?_
  rintro e w2 ⟨B1, B2, B3, n1, n2, n3, d1, d2, d3, f, z, rfl, hR, h2⟩
  have p0 : w2.cell? ⟨w1.heap.size, 0, none⟩ = some (.slice A1 xs.length c1) := cell_keep h2 (by simp) (by simp)
  have p1 : w2.cell? ⟨w1.heap.size, 1, none⟩ = some (.slice A2 ys.length c2) := cell_keep h2 (by simp) (by simp)
  have p2 : w2.cell? ⟨w1.heap.size, 2, none⟩ = some (.slice A3 rs.length c3) := cell_keep h2 (by simp) (by simp)
  have z2 : w1.heap.size < w2.heap.size := by have := h2.size; simp at this; omega
  have M2 := Lib.hid ((HM1.out.ext hb1).ext h2)
  have HR := Lib.hid hR
  clear hR
  go_upto_if 19 with fail
  go_cut [] (fun wx => Below (w2.heap.size + 1) (w2.alloc (.cells #[.slice B1 n1 d1, .slice B2 n2 d2, .slice B3 n3 d3] 25)) wx)
  case first =>
    rcases HR.out with ⟨rfl, hpos, rfl, e2, rfl, hf, ho⟩ | ⟨rfl, hz⟩
    · obtain rfl : n2 = ys.length + 1 := by rw [e2]; rfl
      have m4 := ho.mem (by have := (show (dX xs ys).length ≤ xs.length from List.length_eraseIdx_le _ _); omega) (by show ys.length + 1 ≤ _; omega) (by simp; omega) (fun x hx => HWX.out x (List.mem_of_mem_eraseIdx hx)) (fun x hx => by
        rcases List.mem_cons.1 hx with rfl | hx
        · exact HWX.out _ (List.mem_of_getElem? (i := xs.length - 1) (by rw [List.getD_eq_getElem?_getD, List.getElem?_eq_getElem (by omega)]; rfl))
        · exact HWY.out x hx)
      obtain ⟨g2, hg2, hcg⟩ : ∃ g2, B2 = some ⟨g2, 0, none⟩ ∧ w2.cell? ⟨g2, 0, none⟩ = some (.int .i64 f) := by
        rcases ho.i.form with ⟨_, e⟩ | ⟨g, cur, e, hbg, hh, hs, hm, hc⟩
        · cases e
        · injection e with e
          exact ⟨g, e, by rw [hh.cell_]; exact hc 0 f (by rw [hf]; rfl)⟩
      obtain ⟨b1, off1, x1, rfl, hb1l, hx1, hc1⟩ := M2.out.a.at_ (k := xs.length - 1) (by omega)
      obtain rfl : f = x1 := by rw [hf, List.getD_eq_getElem?_getD, hx1]; rfl
      subst hg2
      have hnd : xs.Nodup := (List.nodup_append.1 HMD.out.nodup).1
      have hwo : wo f xs = dX xs ys := by rw [hf]; exact wo_last hnd hpos
      have f0 : 0 ≤ f ∧ f < 16 := by
        obtain ⟨j, _, e⟩ := HMD.out.from_ f (by simp [List.mem_of_getElem? hx1])
        rw [e]; exact fr_bd j
      obtain ⟨f0, f1⟩ := f0
      have hbit := bit_set (rs := rs) f0
      have hd2 : ys.length + 1 ≤ d2 := by
        rcases ho.i.form with ⟨_, e⟩ | ⟨g, cur, e, hbg, hh, hs, hm, hc⟩
        · cases e
        · injection e with e1 e2 e3
          rw [e3]; exact hs
      have hsl : Sl w2 (.int .i64) (some ⟨g2, 0, none⟩) (f :: ys) := by have := m4.i; unfold dY at this; rw [← hf] at this; exact this
      have hsa := m4.a
      have hsr := m4.r
      have hll : (rs.set f.toNat false).length = rs.length := by simp
      have hlx : (dX xs ys).length ≤ 16 := by have := (show (dX xs ys).length ≤ xs.length from List.length_eraseIdx_le _ _); omega
      clear hx1 hf m4 ho hnd e2 HR
      generalize dX xs ys = ds at *
      generalize rs.set f.toNat false = rt at *
      have hlt : rt.length ≤ 16 := by omega
      have HWO := Lib.hid hwo; have HBIT := Lib.hid hbit; have HSL := Lib.hid hsl; have HSA := Lib.hid hsa; have HSR := Lib.hid hsr; have HLL := Lib.hid hll
      clear hwo hbit hsl hsa hsr hll
      have hgl : g2 < w2.heap.size := World.block_lt_of_cell? w2 ⟨g2, 0, none⟩ hcg
      obtain ⟨A9, c9, hr1, hr2, hA9⟩ := run_tail1 g2 0 ys.length d2
      have HA9 := Lib.hid hA9
      clear hA9
      have t8 : (1 : Int) ≤ xs.length := by omega
      have t1 : (((ys.length + 1 : Nat) : Int) == 0) = false := by simp; omega
      have t2 : ((ys.length : Int) + 1 == 0) = false := by simp; omega
      have t3 : (f != f) = false := by simp
      have t4 : (0 : Int) ≤ (xs.length : Int) - 1 := by omega
      have t5 : ((xs.length : Int) - 1).toNat = xs.length - 1 := by omega
      have t6 : (xs.length : Int) - 1 < xs.length := by omega
      have t7 : IntKind.i64.wrap ((xs.length : Int) - 1) = (xs.length : Int) - 1 := IntWalk.i64_in _ (by omega)
      go_wp2_with fail
      go_region_held3 (fun W => W.cell? ⟨w2.heap.size, 0, none⟩ = some (.slice B1 ds.length d1) ∧ W.cell? ⟨w2.heap.size, 1, none⟩ = some (.slice (some ⟨g2, 0, none⟩) (ys.length + 1) d2) ∧ W.cell? ⟨w2.heap.size, 2, none⟩ = some (.slice B3 rt.length d3) ∧
          W.cell? ⟨w1.heap.size, 0, none⟩ = some (.slice (some ⟨b1, off1, none⟩) xs.length c1) ∧ W.cell? ⟨w1.heap.size, 1, none⟩ = some (.slice A2 ys.length c2) ∧ W.cell? ⟨w1.heap.size, 2, none⟩ = some (.slice A3 rs.length c3) ∧
          W.cell? ⟨g2, 0, none⟩ = some (.int .i64 f) ∧ W.cell? ⟨b1, off1 + (xs.length - 1), none⟩ = some (.int .i64 f))
        (refine ⟨?_, ?_, ?_, ?_, ?_, ?_, ?_, ?_⟩ <;> (refine cell_keep (B := w2.heap.size + 1) (a := w2.alloc (.cells #[.slice B1 ds.length d1, .slice (some ⟨g2, 0, none⟩) (ys.length + 1) d2, .slice B3 rt.length d3] 25)) (by repeat' (first | with_reducible exact Below.refl _ _ | with_reducible assumption | with_reducible apply Below.drew | with_reducible apply below_drewN | with_reducible apply Below.alloc | with_reducible apply Below.setCell | (with_reducible refine Below.trans ?_ (Below.mono (by assumption) ?_)) | (simp; done) | (simp; omega) | omega | with_reducible apply le_size_alloc | with_reducible apply le_size_drewN | with_reducible apply le_size_drew | with_reducible apply le_size_setCell | refine Nat.le_trans ?_ (Below.size (by assumption)))) ?_ ?_ <;> first | (simp; done) | (simp; omega) | ((rw [World.cell?_alloc_lt _ _ _ (by simp; omega)]); assumption)))
        (first
          | (go_at_call 31; (with_reducible refine (without_any _ _ _ _ _ ?_ ?_).mono ?_); (exact M2.out.a.ext (by repeat' (first | with_reducible exact Below.refl _ _ | with_reducible assumption | with_reducible apply Below.drew | with_reducible apply below_drewN | with_reducible apply Below.alloc | with_reducible apply Below.setCell | (with_reducible refine Below.trans ?_ (Below.mono (by assumption) ?_)) | (simp; done) | (simp; omega) | omega | with_reducible apply le_size_alloc | with_reducible apply le_size_drewN | with_reducible apply le_size_drew | with_reducible apply le_size_setCell | refine Nat.le_trans ?_ (Below.size (by assumption))))); (omega); rw [HWO.out]; rintro e w3 ⟨D1, f1', rfl, o3, h3⟩; have HS3 := Lib.hid o3.sl_; clear o3)
          | (go_at_call 30; (with_reducible refine (SameInts_any B1 D1 _ _ ds ds _ ?_ ?_ (by omega) (by omega)).mono ?_); (exact HSA.out.ext (by repeat' (first | with_reducible exact Below.refl _ _ | with_reducible assumption | with_reducible apply Below.drew | with_reducible apply below_drewN | with_reducible apply Below.alloc | with_reducible apply Below.setCell | (with_reducible refine Below.trans ?_ (Below.mono (by assumption) ?_)) | (simp; done) | (simp; omega) | omega | with_reducible apply le_size_alloc | with_reducible apply le_size_drewN | with_reducible apply le_size_drew | with_reducible apply le_size_setCell | refine Nat.le_trans ?_ (Below.size (by assumption))))); (exact HS3.out.ext (by repeat' (first | with_reducible exact Below.refl _ _ | with_reducible assumption | with_reducible apply Below.drew | with_reducible apply below_drewN | with_reducible apply Below.alloc | with_reducible apply Below.setCell | (with_reducible refine Below.trans ?_ (Below.mono (by assumption) ?_)) | (simp; done) | (simp; omega) | omega | with_reducible apply le_size_alloc | with_reducible apply le_size_drewN | with_reducible apply le_size_drew | with_reducible apply le_size_setCell | refine Nat.le_trans ?_ (Below.size (by assumption))))); rintro e w4 ⟨rfl, h4⟩)
          | (go_at_call 30; (with_reducible refine (SameInts_any A9 A2 _ _ ys ys _ ?_ ?_ (by omega) (by omega)).mono ?_); (exact (HSL.out.ext (by repeat' (first | with_reducible exact Below.refl _ _ | with_reducible assumption | with_reducible apply Below.drew | with_reducible apply below_drewN | with_reducible apply Below.alloc | with_reducible apply Below.setCell | (with_reducible refine Below.trans ?_ (Below.mono (by assumption) ?_)) | (simp; done) | (simp; omega) | omega | with_reducible apply le_size_alloc | with_reducible apply le_size_drewN | with_reducible apply le_size_drew | with_reducible apply le_size_setCell | refine Nat.le_trans ?_ (Below.size (by assumption))))).tail1 d2 (by omega) HA9.out); (exact M2.out.i.ext (by repeat' (first | with_reducible exact Below.refl _ _ | with_reducible assumption | with_reducible apply Below.drew | with_reducible apply below_drewN | with_reducible apply Below.alloc | with_reducible apply Below.setCell | (with_reducible refine Below.trans ?_ (Below.mono (by assumption) ?_)) | (simp; done) | (simp; omega) | omega | with_reducible apply le_size_alloc | with_reducible apply le_size_drewN | with_reducible apply le_size_drew | with_reducible apply le_size_setCell | refine Nat.le_trans ?_ (Below.size (by assumption))))); rintro e w5 ⟨rfl, h5⟩)
          | (go_at_call 32; (with_reducible refine (bits_yes _ _ B3 _ _ A3 _ _ _ _ _ _ _ _ _ _ rs rt f _ ?_ ?_ (by omega) HLL.out HBIT.out).mono ?_); (exact HSR.out.ext (by repeat' (first | with_reducible exact Below.refl _ _ | with_reducible assumption | with_reducible apply Below.drew | with_reducible apply below_drewN | with_reducible apply Below.alloc | with_reducible apply Below.setCell | (with_reducible refine Below.trans ?_ (Below.mono (by assumption) ?_)) | (simp; done) | (simp; omega) | omega | with_reducible apply le_size_alloc | with_reducible apply le_size_drewN | with_reducible apply le_size_drew | with_reducible apply le_size_setCell | refine Nat.le_trans ?_ (Below.size (by assumption))))); (exact M2.out.r.ext (by repeat' (first | with_reducible exact Below.refl _ _ | with_reducible assumption | with_reducible apply Below.drew | with_reducible apply below_drewN | with_reducible apply Below.alloc | with_reducible apply Below.setCell | (with_reducible refine Below.trans ?_ (Below.mono (by assumption) ?_)) | (simp; done) | (simp; omega) | omega | with_reducible apply le_size_alloc | with_reducible apply le_size_drewN | with_reducible apply le_size_drew | with_reducible apply le_size_setCell | refine Nat.le_trans ?_ (Below.size (by assumption))))); rintro e w6 ⟨rfl, h6⟩))
      go_wp2
      go_meet
      exact (by repeat' (first | with_reducible exact Below.refl _ _ | with_reducible assumption | with_reducible apply Below.drew | with_reducible apply below_drewN | with_reducible apply Below.alloc | with_reducible apply Below.setCell | (with_reducible refine Below.trans ?_ (Below.mono (by assumption) ?_)) | (simp; done) | (simp; omega) | omega | with_reducible apply le_size_alloc | with_reducible apply le_size_drewN | with_reducible apply le_size_drew | with_reducible apply le_size_setCell | refine Nat.le_trans ?_ (Below.size (by assumption))))
    · go_wp2
      go_meet
      exact Below.refl _ _
  case rest =>
    have p3 : wc.cell? ⟨w1.heap.size, 0, none⟩ = some (.slice A1 xs.length c1) := cell_keep hcut ((World.cell?_alloc_lt _ _ _ (by simp; omega)).trans p0) (by simp; omega)
    have p4 : wc.cell? ⟨w1.heap.size, 1, none⟩ = some (.slice A2 ys.length c2) := cell_keep hcut ((World.cell?_alloc_lt _ _ _ (by simp; omega)).trans p1) (by simp; omega)
    have p5 : wc.cell? ⟨w1.heap.size, 2, none⟩ = some (.slice A3 rs.length c3) := cell_keep hcut ((World.cell?_alloc_lt _ _ _ (by simp; omega)).trans p2) (by simp; omega)
    have hz : w2.heap.size + 1 ≤ wc.heap.size := by have := hcut.size; simpa using this
    have hbc : Below w2.heap.size w2 wc := ((Below.refl _ _).alloc (Nat.le_refl _) _).trans (hcut.mono (Nat.le_succ _))
    have hbw : Below w.heap.size w wc := (by repeat' (first | with_reducible exact Below.refl _ _ | with_reducible assumption | with_reducible apply Below.drew | with_reducible apply below_drewN | with_reducible apply Below.alloc | with_reducible apply Below.setCell | (with_reducible refine Below.trans ?_ (Below.mono (by assumption) ?_)) | (simp; done) | (simp; omega) | omega | with_reducible apply le_size_alloc | with_reducible apply le_size_drewN | with_reducible apply le_size_drew | with_reducible apply le_size_setCell | refine Nat.le_trans ?_ (Below.size (by assumption))))
    have MC := Lib.hid (M2.out.ext hbc)
    clear p0 p1 p2 hcut M2
    go_wp2_with fail
    refine (Promote_val _ _ _ _ _ _ _ _ _ _ MC.out HCK.out).mono ?_
    rintro e w3 ⟨E1, E2, E3, k1, k2, k3, g1, g2, g3, g, y, rfl, hR, h3⟩
    have p0 : w3.cell? ⟨w1.heap.size, 0, none⟩ = some (.slice A1 xs.length c1) := cell_keep h3 p3 (by simp; omega)
    have p1 : w3.cell? ⟨w1.heap.size, 1, none⟩ = some (.slice A2 ys.length c2) := cell_keep h3 p4 (by simp; omega)
    have p2 : w3.cell? ⟨w1.heap.size, 2, none⟩ = some (.slice A3 rs.length c3) := cell_keep h3 p5 (by simp; omega)
    have z3 : w1.heap.size < w3.heap.size := by have := h3.size; omega
    have M3 := Lib.hid (MC.out.ext h3)
    have HR2 := Lib.hid hR
    have hbw3 : Below w.heap.size w w3 := (by repeat' (first | with_reducible exact Below.refl _ _ | with_reducible assumption | with_reducible apply Below.drew | with_reducible apply below_drewN | with_reducible apply Below.alloc | with_reducible apply Below.setCell | (with_reducible refine Below.trans ?_ (Below.mono (by assumption) ?_)) | (simp; done) | (simp; omega) | omega | with_reducible apply le_size_alloc | with_reducible apply le_size_drewN | with_reducible apply le_size_drew | with_reducible apply le_size_setCell | refine Nat.le_trans ?_ (Below.size (by assumption))))
    clear hR p3 p4 p5 MC
    go_upto_if 77 with fail
    go_cut [] (fun wx => Below (w3.heap.size + 1) (w3.alloc (.cells #[.slice E1 k1 g1, .slice E2 k2 g2, .slice E3 k3 g3] 25)) wx)
    case first =>
      rcases HR2.out with ⟨rfl, hpos, e2, rfl, rfl, hf, ho⟩ | ⟨rfl, hz⟩
      · obtain rfl : k1 = xs.length + 1 := by rw [e2]; rfl
        have m4 := ho.mem (by show xs.length + 1 ≤ _; omega) (by have := (show (pY xs ys).length ≤ ys.length from List.length_eraseIdx_le _ _); omega) (by simp; omega) (fun x hx => by
          rcases List.mem_cons.1 hx with rfl | hx
          · exact HWY.out _ (List.mem_of_getElem? (i := ys.length - 1) (by rw [List.getD_eq_getElem?_getD, List.getElem?_eq_getElem (by omega)]; rfl))
          · exact HWX.out x hx) (fun x hx => HWY.out x (List.mem_of_mem_eraseIdx hx))
        obtain ⟨q2, hg2, hcg⟩ : ∃ q2, E1 = some ⟨q2, 0, none⟩ ∧ w3.cell? ⟨q2, 0, none⟩ = some (.int .i64 g) := by
          rcases ho.a.form with ⟨_, e⟩ | ⟨q, cur, e, hbg, hh, hs, hm, hc⟩
          · cases e
          · injection e with e
            exact ⟨q, e, by rw [hh.cell_]; exact hc 0 g (by rw [hf]; rfl)⟩
        obtain ⟨b1, off1, x1, rfl, hb1l, hx1, hc1⟩ := M3.out.i.at_ (k := ys.length - 1) (by omega)
        obtain rfl : g = x1 := by rw [hf, List.getD_eq_getElem?_getD, hx1]; rfl
        subst hg2
        have hnd : ys.Nodup := (List.nodup_append.1 HMD.out.nodup).2.1
        have hwo : wo g ys = pY xs ys := by rw [hf]; exact wo_last hnd hpos
        have f0 : 0 ≤ g ∧ g < 16 := by
          obtain ⟨j, _, e⟩ := HMD.out.from_ g (by simp [List.mem_of_getElem? hx1])
          rw [e]; exact fr_bd j
        obtain ⟨f0, f1⟩ := f0
        have hbit := bit_set (rs := rs) f0
        have hd2 : xs.length + 1 ≤ g1 := by
          rcases ho.a.form with ⟨_, e⟩ | ⟨q, cur, e, hbg, hh, hs, hm, hc⟩
          · cases e
          · injection e with e1 e2 e3
            rw [e3]; exact hs
        have hsl : Sl w3 (.int .i64) (some ⟨q2, 0, none⟩) (g :: xs) := by have := m4.a; unfold pX at this; rw [← hf] at this; exact this
        have hsa := m4.i
        have hsr := m4.r
        have hll : (rs.set g.toNat false).length = rs.length := by simp
        have hlx : (pY xs ys).length ≤ 16 := by have := (show (pY xs ys).length ≤ ys.length from List.length_eraseIdx_le _ _); omega
        clear hx1 hf m4 ho hnd e2 HR2
        generalize pY xs ys = ds at *
        generalize rs.set g.toNat false = rt at *
        have hlt : rt.length ≤ 16 := by omega
        have HWO := Lib.hid hwo; have HBIT := Lib.hid hbit; have HSL := Lib.hid hsl; have HSA := Lib.hid hsa; have HSR := Lib.hid hsr; have HLL := Lib.hid hll
        clear hwo hbit hsl hsa hsr hll
        have hgl : q2 < w3.heap.size := World.block_lt_of_cell? w3 ⟨q2, 0, none⟩ hcg
        obtain ⟨A9, c9, hr1, hr2, hA9⟩ := run_tail1 q2 0 xs.length g1
        have HA9 := Lib.hid hA9
        clear hA9
        have t8 : (1 : Int) ≤ ys.length := by omega
        have t1 : (((xs.length + 1 : Nat) : Int) == 0) = false := by simp; omega
        have t2 : ((xs.length : Int) + 1 == 0) = false := by simp; omega
        have t3 : (g != g) = false := by simp
        have t4 : (0 : Int) ≤ (ys.length : Int) - 1 := by omega
        have t5 : ((ys.length : Int) - 1).toNat = ys.length - 1 := by omega
        have t6 : (ys.length : Int) - 1 < ys.length := by omega
        have t7 : IntKind.i64.wrap ((ys.length : Int) - 1) = (ys.length : Int) - 1 := IntWalk.i64_in _ (by omega)
        go_wp2_with fail
        go_region_held3 (fun W => W.cell? ⟨w3.heap.size, 0, none⟩ = some (.slice (some ⟨q2, 0, none⟩) (xs.length + 1) g1) ∧ W.cell? ⟨w3.heap.size, 1, none⟩ = some (.slice E2 ds.length g2) ∧ W.cell? ⟨w3.heap.size, 2, none⟩ = some (.slice E3 rt.length g3) ∧
            W.cell? ⟨w1.heap.size, 0, none⟩ = some (.slice A1 xs.length c1) ∧ W.cell? ⟨w1.heap.size, 1, none⟩ = some (.slice (some ⟨b1, off1, none⟩) ys.length c2) ∧ W.cell? ⟨w1.heap.size, 2, none⟩ = some (.slice A3 rs.length c3) ∧
            W.cell? ⟨q2, 0, none⟩ = some (.int .i64 g) ∧ W.cell? ⟨b1, off1 + (ys.length - 1), none⟩ = some (.int .i64 g))
          (refine ⟨?_, ?_, ?_, ?_, ?_, ?_, ?_, ?_⟩ <;> (refine cell_keep (B := w3.heap.size + 1) (a := w3.alloc (.cells #[.slice (some ⟨q2, 0, none⟩) (xs.length + 1) g1, .slice E2 ds.length g2, .slice E3 rt.length g3] 25)) (by repeat' (first | with_reducible exact Below.refl _ _ | with_reducible assumption | with_reducible apply Below.drew | with_reducible apply below_drewN | with_reducible apply Below.alloc | with_reducible apply Below.setCell | (with_reducible refine Below.trans ?_ (Below.mono (by assumption) ?_)) | (simp; done) | (simp; omega) | omega | with_reducible apply le_size_alloc | with_reducible apply le_size_drewN | with_reducible apply le_size_drew | with_reducible apply le_size_setCell | refine Nat.le_trans ?_ (Below.size (by assumption)))) ?_ ?_ <;> first | (simp; done) | (simp; omega) | ((rw [World.cell?_alloc_lt _ _ _ (by simp; omega)]); assumption)))
          (first
            | (go_at_call 31; (with_reducible refine (without_any _ _ _ _ _ ?_ ?_).mono ?_); (exact M3.out.i.ext (by repeat' (first | with_reducible exact Below.refl _ _ | with_reducible assumption | with_reducible apply Below.drew | with_reducible apply below_drewN | with_reducible apply Below.alloc | with_reducible apply Below.setCell | (with_reducible refine Below.trans ?_ (Below.mono (by assumption) ?_)) | (simp; done) | (simp; omega) | omega | with_reducible apply le_size_alloc | with_reducible apply le_size_drewN | with_reducible apply le_size_drew | with_reducible apply le_size_setCell | refine Nat.le_trans ?_ (Below.size (by assumption))))); (omega); rw [HWO.out]; rintro e w4 ⟨D1, f1', rfl, o3, h4⟩; have HS3 := Lib.hid o3.sl_; clear o3)
            | (go_at_call 30; (with_reducible refine (SameInts_any E2 D1 _ _ ds ds _ ?_ ?_ (by omega) (by omega)).mono ?_); (exact HSA.out.ext (by repeat' (first | with_reducible exact Below.refl _ _ | with_reducible assumption | with_reducible apply Below.drew | with_reducible apply below_drewN | with_reducible apply Below.alloc | with_reducible apply Below.setCell | (with_reducible refine Below.trans ?_ (Below.mono (by assumption) ?_)) | (simp; done) | (simp; omega) | omega | with_reducible apply le_size_alloc | with_reducible apply le_size_drewN | with_reducible apply le_size_drew | with_reducible apply le_size_setCell | refine Nat.le_trans ?_ (Below.size (by assumption))))); (exact HS3.out.ext (by repeat' (first | with_reducible exact Below.refl _ _ | with_reducible assumption | with_reducible apply Below.drew | with_reducible apply below_drewN | with_reducible apply Below.alloc | with_reducible apply Below.setCell | (with_reducible refine Below.trans ?_ (Below.mono (by assumption) ?_)) | (simp; done) | (simp; omega) | omega | with_reducible apply le_size_alloc | with_reducible apply le_size_drewN | with_reducible apply le_size_drew | with_reducible apply le_size_setCell | refine Nat.le_trans ?_ (Below.size (by assumption))))); rintro e w5 ⟨rfl, h5⟩)
            | (go_at_call 30; (with_reducible refine (SameInts_any A9 A1 _ _ xs xs _ ?_ ?_ (by omega) (by omega)).mono ?_); (exact (HSL.out.ext (by repeat' (first | with_reducible exact Below.refl _ _ | with_reducible assumption | with_reducible apply Below.drew | with_reducible apply below_drewN | with_reducible apply Below.alloc | with_reducible apply Below.setCell | (with_reducible refine Below.trans ?_ (Below.mono (by assumption) ?_)) | (simp; done) | (simp; omega) | omega | with_reducible apply le_size_alloc | with_reducible apply le_size_drewN | with_reducible apply le_size_drew | with_reducible apply le_size_setCell | refine Nat.le_trans ?_ (Below.size (by assumption))))).tail1 g1 (by omega) HA9.out); (exact M3.out.a.ext (by repeat' (first | with_reducible exact Below.refl _ _ | with_reducible assumption | with_reducible apply Below.drew | with_reducible apply below_drewN | with_reducible apply Below.alloc | with_reducible apply Below.setCell | (with_reducible refine Below.trans ?_ (Below.mono (by assumption) ?_)) | (simp; done) | (simp; omega) | omega | with_reducible apply le_size_alloc | with_reducible apply le_size_drewN | with_reducible apply le_size_drew | with_reducible apply le_size_setCell | refine Nat.le_trans ?_ (Below.size (by assumption))))); rintro e w6 ⟨rfl, h6⟩)
            | (go_at_call 32; (with_reducible refine (bits_yes _ _ E3 _ _ A3 _ _ _ _ _ _ _ _ _ _ rs rt g _ ?_ ?_ (by omega) HLL.out HBIT.out).mono ?_); (exact HSR.out.ext (by repeat' (first | with_reducible exact Below.refl _ _ | with_reducible assumption | with_reducible apply Below.drew | with_reducible apply below_drewN | with_reducible apply Below.alloc | with_reducible apply Below.setCell | (with_reducible refine Below.trans ?_ (Below.mono (by assumption) ?_)) | (simp; done) | (simp; omega) | omega | with_reducible apply le_size_alloc | with_reducible apply le_size_drewN | with_reducible apply le_size_drew | with_reducible apply le_size_setCell | refine Nat.le_trans ?_ (Below.size (by assumption))))); (exact M3.out.r.ext (by repeat' (first | with_reducible exact Below.refl _ _ | with_reducible assumption | with_reducible apply Below.drew | with_reducible apply below_drewN | with_reducible apply Below.alloc | with_reducible apply Below.setCell | (with_reducible refine Below.trans ?_ (Below.mono (by assumption) ?_)) | (simp; done) | (simp; omega) | omega | with_reducible apply le_size_alloc | with_reducible apply le_size_drewN | with_reducible apply le_size_drew | with_reducible apply le_size_setCell | refine Nat.le_trans ?_ (Below.size (by assumption))))); rintro e w7 ⟨rfl, h7⟩))
        go_wp2
        go_meet
        exact (by repeat' (first | with_reducible exact Below.refl _ _ | with_reducible assumption | with_reducible apply Below.drew | with_reducible apply below_drewN | with_reducible apply Below.alloc | with_reducible apply Below.setCell | (with_reducible refine Below.trans ?_ (Below.mono (by assumption) ?_)) | (simp; done) | (simp; omega) | omega | with_reducible apply le_size_alloc | with_reducible apply le_size_drewN | with_reducible apply le_size_drew | with_reducible apply le_size_setCell | refine Nat.le_trans ?_ (Below.size (by assumption))))
      · go_wp2
        go_meet
        exact Below.refl _ _
    case rest =>
      have p3 : wc.cell? ⟨w1.heap.size, 0, none⟩ = some (.slice A1 xs.length c1) := cell_keep hcut ((World.cell?_alloc_lt _ _ _ (by simp; omega)).trans p0) (by simp; omega)
      have p4 : wc.cell? ⟨w1.heap.size, 1, none⟩ = some (.slice A2 ys.length c2) := cell_keep hcut ((World.cell?_alloc_lt _ _ _ (by simp; omega)).trans p1) (by simp; omega)
      have hbw4 : Below w.heap.size w wc := hbw3.trans ((((Below.refl _ _).alloc (Nat.le_refl _) _).trans (hcut.mono (Nat.le_succ _))).mono hbw3.size)
      clear p0 p1 p2 hcut
      rcases HR.out with ⟨rfl, q1, _, _, _, _, _⟩ | ⟨rfl, q1⟩ <;> rcases HR2.out with ⟨rfl, q2, _, _, _, _, _⟩ | ⟨rfl, q2⟩
      all_goals
        go_wp2_with (go_at_call 11; refine (awake_any _).mono ?_; rintro e w8 ⟨rfl, h8⟩)
        go_ret
        exact ⟨by first | rfl | (simp; done) | (simp; exact List.eq_nil_of_length_eq_zero (by omega)) | (simp; exact ⟨List.eq_nil_of_length_eq_zero (by omega), List.eq_nil_of_length_eq_zero (by omega)⟩), (by repeat' (first | with_reducible exact Below.refl _ _ | with_reducible assumption | with_reducible apply Below.drew | with_reducible apply below_drewN | with_reducible apply Below.alloc | with_reducible apply Below.setCell | (with_reducible refine Below.trans ?_ (Below.mono (by assumption) ?_)) | (simp; done) | (simp; omega) | omega | with_reducible apply le_size_alloc | with_reducible apply le_size_drewN | with_reducible apply le_size_drew | with_reducible apply le_size_setCell | refine Nat.le_trans ?_ (Below.size (by assumption))))⟩

set_option maxRecDepth 100000 in
theorem lruMoves_lifted (os : Os) (started : os.Started) (H : Type) (enc : TypeId × Value → H) :
    ReturnsInHanded {} Try.checked os 5 .any (Rows.lruMovesSpec.pre6 enc Try.prog Try.f5 Rows.lruMovesRow.domain false) (Rows.lruMovesSpec.post enc Try.prog Try.f5 false true false false) := by
  refine returnsInHanded_of_change (C := Try.checked) own started (by kernel_rfl) Try.func5
    (ChangeSpec.witness6 (enc := enc) (C := Try.checked) false ⟨#[], #[.slice none 0 0], []⟩ 8 (by kernel_rfl) (by kernel_rfl) (by kernel_rfl) (by kernel_rfl)) ?_
  intro W base args ds gs before hval0 hW hcnd _
  have hval : ∀ (j : Nat) t v, Try.f5.params[j]? = some t → args[j]? = some v → Value.okWide Try.prog W .any base t v := hval0
  have hW' := hW
  obtain ⟨p, q, hA0, hV, rfl, hfz, hnd⟩ := hW
  have hA : DataW.TrodAll enc Try.prog W 0 (fun _ => true) true Try.f5.params.toList args.toList ds p := hA0
  rw [Try.params5] at hA hval
  obtain ⟨v0, vs0, d0, ds0, p0, q0, hargs, rfl, rfl, h0, r0⟩ := trodAll_cons hA
  obtain ⟨rfl, rfl, rfl⟩ := trodAll_nil r0
  obtain rfl : args = #[v0] := by cases args; simp_all
  obtain ⟨rfl, rfl⟩ := trodVars_none hV
  obtain ⟨A0, k0, a0, rfl, s0, w0, l0⟩ := open_slI Try.underlying22 Try.underlying3 (by kernel_rfl) (hval 0 22 v0 rfl rfl) h0
  clear hA0 hval0
  refine (lruMoves_walk A0 k0 a0 W s0 w0 l0).mono fun e W' ⟨he, hb⟩ => ⟨_, he, ?_⟩
  exact law_post laidOut (s := Rows.lruMovesSpec) (B := 4) rfl rfl Try.underlying4 (by decide +kernel) hW' rfl hb

theorem lruMoves_holds : Rows.LruMovesSaid :=
  OpenClaim.holds_of_wide 5 Try.f5 rfl rfl rfl rfl rfl rfl rfl ⟨rfl, rfl, rfl, rfl, rfl⟩ rfl rfl rfl rfl rfl (by kernel_rfl) Try.func5 (by kernel_rfl)
    (of_decide_eq_true (by kernel_rfl)) (by unfold Func.isWrapper; first | (rw [if_pos (by decide +kernel)]; kernel_rfl) | (rw [if_neg (by decide +kernel)]; exact ⟨rfl, rfl⟩))
    (fun os started H enc _ => lruMoves_lifted os started H enc)

end Go.Proofs.Ytjilfijpepbfeaa
