/- headgatelaw25: at, m, list, shown, awake; a slice of mappings as an argument. Written by gen_rl1.py. -/
import Derived.Test.YtbeddhamnefpiaaRR4
import Derived.Test.YtbeddhamnefpiaaCloseR
namespace Go.Proofs.Ytbeddhamnefpiaa
set_option linter.unusedSimpArgs false
set_option linter.unusedVariables false
open Go.RowKit Go.Maps
open Go.ChangeShapes Go.WideShapes Go.ChangeAt Go.Joins Go.Deep

theorem cells2 {w : World} {B : Nat} {u0 u1 : Value} (q0 : w.cell? ⟨B, 0, none⟩ = some u0) (q1 : w.cell? ⟨B, 1, none⟩ = some u1) (s1 s2 : Value) :
    ((w.setCell ⟨B, 0, none⟩ s1).setCell ⟨B, 1, none⟩ s2).cell? ⟨B, 0, none⟩ = some s1 ∧ ((w.setCell ⟨B, 0, none⟩ s1).setCell ⟨B, 1, none⟩ s2).cell? ⟨B, 1, none⟩ = some s2 := by
  simp [go_sem, q0, q1]
theorem cells3 {w : World} {B : Nat} {u0 u1 u2 : Value} (q0 : w.cell? ⟨B, 0, none⟩ = some u0) (q1 : w.cell? ⟨B, 1, none⟩ = some u1) (q2 : w.cell? ⟨B, 2, none⟩ = some u2) (s1 s2 s3 : Value) :
    (((w.setCell ⟨B, 0, none⟩ s1).setCell ⟨B, 1, none⟩ s2).setCell ⟨B, 2, none⟩ s3).cell? ⟨B, 0, none⟩ = some s1 ∧ (((w.setCell ⟨B, 0, none⟩ s1).setCell ⟨B, 1, none⟩ s2).setCell ⟨B, 2, none⟩ s3).cell? ⟨B, 1, none⟩ = some s2 ∧
    (((w.setCell ⟨B, 0, none⟩ s1).setCell ⟨B, 1, none⟩ s2).setCell ⟨B, 2, none⟩ s3).cell? ⟨B, 2, none⟩ = some s3 := by
  simp [go_sem, q0, q1, q2]

section
variable {H : Type} {enc : TypeId × Value → H} {P : Program} {W : World}
theorem trod_map {base : Nat} {spare : Nat → Bool} {held : Bool} {tM : TypeId} {f0 f1 g0 g1 : Field} {fuel : Nat} {cs : List Value} {x : DataW H × List MemPlace} (hM : P.underlying tM = some (.struct #[f0, f1])) (hP : P.underlying f1.type = some (.struct #[g0, g1]))
    (i0 : P.underlying f0.type = some (.int .i64)) (j0 : P.underlying g0.type = some (.int .i64)) (j1 : P.underlying g1.type = some (.int .i64)) (o0 : f0.offset = 0) (o1 : f1.offset = 1) (p0 : g0.offset = 0) (p1 : g1.offset = 1)
    (c0 : P.cellsOf f0.type = 1) (c1 : P.cellsOf f1.type = 2) (d0 : P.cellsOf g0.type = 1) (d1 : P.cellsOf g1.type = 1) (h : DataW.trod enc P W base spare held fuel tM cs = some x) :
    ∃ a b c : Int, cs[0]? = some (.int .i64 a) ∧ cs[1]? = some (.int .i64 b) ∧ cs[2]? = some (.int .i64 c) := by
  obtain ⟨y0, y1, n, _, _, h0, h1⟩ := trod_struct2 hM h
  rw [o0, c0] at h0
  rw [o1, c1] at h1
  obtain ⟨a, e0, _, _⟩ := DataW.trod_int i0 h0
  obtain ⟨z0, z1, m, _, _, k0, k1⟩ := trod_struct2 hP h1
  rw [p0, d0] at k0
  rw [p1, d1] at k1
  obtain ⟨b, e1, _, _⟩ := DataW.trod_int j0 k0
  obtain ⟨c, e2, _, _⟩ := DataW.trod_int j1 k1
  have q0 : ((cs.drop 0).take 1)[0]? = some (.int .i64 a) := by rw [e0]; rfl
  have q1 : ((((cs.drop 1).take 2).drop 0).take 1)[0]? = some (.int .i64 b) := by rw [e1]; rfl
  have q2 : ((((cs.drop 1).take 2).drop 1).take 1)[0]? = some (.int .i64 c) := by rw [e2]; rfl
  rw [List.getElem?_take_of_lt (by omega), List.getElem?_drop] at q0
  rw [List.getElem?_take_of_lt (by omega), List.getElem?_drop, List.getElem?_take_of_lt (by omega), List.getElem?_drop] at q1 q2
  exact ⟨a, b, c, q0, q1, q2⟩
end
set_option maxRecDepth 100000 in
theorem open_maps {H : Type} {enc : TypeId × Value → H} {W : World} {base : Nat} {v : Value} {d : DataW H} {p : List MemPlace} (hv : Value.okWide Try.prog W .any base 22 v) (h : DataW.Trod enc Try.prog W 0 (fun _ => true) true 22 v d p) :
    ∃ A c l, v = .slice A l.length c ∧ CR mapE W A c l ∧ l.length ≤ maxLen := by
  obtain ⟨a, len, cap, rfl⟩ := okWide_slice Try.underlying22 hv
  obtain ⟨fuel, hfu⟩ := h
  have ce : (Try.prog).cellsOf 59 = 3 := by kernel_rfl
  rcases open_slice Try.underlying22 hfu with ⟨hcs, _⟩ | ⟨a', len', cap', m, n, D, Pl, hcs, _, hl, hm, hmm, _, hx⟩
  · simp [Value.cells] at hcs
    obtain ⟨rfl, rfl, rfl⟩ := hcs
    exact ⟨none, 0, [], rfl, CR.nil, by simp⟩
  · simp [Value.cells] at hcs
    obtain ⟨rfl, rfl, rfl⟩ := hcs
    simp only [if_true] at hmm
    subst hmm
    have each : ∀ i, i < len → ∃ x : M3, ∀ (j : Nat) u, (mapE.enc x)[j]? = some u → W.cell? (a'.add (i * 3 + j)) = some u := by
      intro i hi
      obtain ⟨cs', h1, h2⟩ := hx i (by omega)
      rw [ce] at h1
      obtain ⟨_, hlen, hcell⟩ := World.cells?_some h1
      obtain ⟨x, y, z, e0, e1, e2⟩ := trod_map Try.underlying59 Try.underlying24 Try.underlying3 Try.underlying3 Try.underlying3 rfl rfl rfl rfl (by kernel_rfl) (by kernel_rfl) (by kernel_rfl) (by kernel_rfl) h2
      refine ⟨(x, y, z), fun j u hu => ?_⟩
      have hk : ∀ j, j < 3 → W.cell? (a'.add (i * 3 + j)) = cs'[j]? := fun j hj => by
        have := hcell j hj
        rwa [add_add] at this
      match j, hu with
      | 0, hu => rw [hk 0 (by omega), e0]; exact hu
      | 1, hu => rw [hk 1 (by omega), e1]; exact hu
      | 2, hu => rw [hk 2 (by omega), e2]; exact hu
      | j + 3, hu => exact absurd hu (by simp [mapE])
    let X : Nat → M3 := fun i => if h : i < len then Classical.choose (each i h) else (0, 0, 0)
    have hX : ∀ i, i < len → ∀ (j : Nat) u, (mapE.enc (X i))[j]? = some u → W.cell? (a'.add (i * 3 + j)) = some u := by
      intro i hi
      have : X i = Classical.choose (each i hi) := dif_pos hi
      rw [this]
      exact Classical.choose_spec (each i hi)
    refine ⟨some a', m, (List.range len).map X, by simp, ⟨?_, by simpa using hl⟩, by simp; omega⟩
    rcases Nat.eq_zero_or_pos len with h0 | h0
    · subst h0
      exact SR.nil
    · obtain ⟨b, off, sp⟩ := a'
      have hc0 := hX 0 h0 0 _ rfl
      rw [Nat.zero_mul, Nat.zero_add] at hc0
      cases sp with
      | some s =>
        simp [Addr.add, World.cell?] at hc0
        split at hc0 <;> cases hc0
      | none =>
        have hadd : ∀ k, (⟨b, off, none⟩ : Addr).add k = ⟨b, off + k, none⟩ := fun k => by by_cases h : k = 0 <;> simp [Addr.add, h]
        rw [hadd] at hc0
        refine SR.of_at (fun _ => World.block_lt_of_cell? W _ hc0) (fun i x hi j u hu => ?_)
        obtain ⟨hi', rfl⟩ := List.getElem?_eq_some_iff.1 hi
        simp at hi'
        simp only [List.getElem_map, List.getElem_range] at hu
        have := hX i hi' j u hu
        rw [hadd] at this
        rw [Nat.add_assoc]
        exact this

set_option maxHeartbeats 1000000 in
theorem lat_any (p q : Int) (w : World) : Calls Try.prog 36 #[.int .i64 p, .int .i64 q] w fun e w' => e = .returned (.agg #[.int .i64 p, .int .i64 q]) ∧ Below w.heap.size w w' := by
  go_enter Try.func36, Try.ntmps36
  go_wp2
  refine bodyPost_ret (v := .agg #[.int .i64 p, .int .i64 q]) (by simp [results, Try.results36, go_sem]) rfl ?_
  exact ⟨rfl, (by repeat' (first | with_reducible exact Below.refl _ _ | with_reducible assumption | with_reducible apply Below.drew | with_reducible apply below_drewN | with_reducible apply Below.alloc | with_reducible apply Below.setCell | (with_reducible refine Below.trans ?_ (Below.mono (by assumption) ?_)) | (simp; done) | (simp; omega) | omega | with_reducible apply le_size_alloc | with_reducible apply le_size_drewN | with_reducible apply le_size_drew | with_reducible apply le_size_setCell | refine Nat.le_trans ?_ (Below.size (by assumption))))⟩
set_option maxHeartbeats 1000000 in
theorem lm_any (f p q : Int) (w : World) : Calls Try.prog 38 #[.int .i64 f, .int .i64 p, .int .i64 q] w fun e w' => e = .returned (.agg #[.int .i64 f, .int .i64 p, .int .i64 q]) ∧ Below w.heap.size w w' := by
  go_enter Try.func38, Try.ntmps38
  go_wp2_with fail
  refine (lat_any _ _ _).mono ?_
  rintro e w1 ⟨rfl, hb1⟩
  have kb : Blk w1 w.heap.size 59 #[.int .i64 0, .int .i64 0, .int .i64 0] := Blk.below_ (Blk.new_ rfl rfl) hb1 (by simp)
  have hb : Below w.heap.size w w1 := (by repeat' (first | with_reducible exact Below.refl _ _ | with_reducible assumption | with_reducible apply Below.drew | with_reducible apply below_drewN | with_reducible apply Below.alloc | with_reducible apply Below.setCell | (with_reducible refine Below.trans ?_ (Below.mono (by assumption) ?_)) | (simp; done) | (simp; omega) | omega | with_reducible apply le_size_alloc | with_reducible apply le_size_drewN | with_reducible apply le_size_drew | with_reducible apply le_size_setCell | refine Nat.le_trans ?_ (Below.size (by assumption))))
  have k0 := kb.cell_ 0
  have k1 := kb.cell_ 1
  have k2 := kb.cell_ 2
  have f0 := kb.frozen_ 0
  have f1 := kb.frozen_ 1
  have f2 := kb.frozen_ 2
  have kl := kb.lt
  simp at k0 k1 k2
  obtain ⟨r0, r1, r2⟩ := cells3 k0 k1 k2 (.int .i64 f) (.int .i64 p) (.int .i64 q)
  have hlast : Hid (Below w.heap.size w (((w1.setCell ⟨w.heap.size, 0, none⟩ (.int .i64 f)).setCell ⟨w.heap.size, 1, none⟩ (.int .i64 p)).setCell ⟨w.heap.size, 2, none⟩ (.int .i64 q))) := by show Below _ _ _; exact (by repeat' (first | with_reducible exact Below.refl _ _ | with_reducible assumption | with_reducible apply Below.drew | with_reducible apply below_drewN | with_reducible apply Below.alloc | with_reducible apply Below.setCell | (with_reducible refine Below.trans ?_ (Below.mono (by assumption) ?_)) | (simp; done) | (simp; omega) | omega | with_reducible apply le_size_alloc | with_reducible apply le_size_drewN | with_reducible apply le_size_drew | with_reducible apply le_size_setCell | refine Nat.le_trans ?_ (Below.size (by assumption))))
  clear hb hb1 kb
  go_wp2_with fail
  refine bodyPost_ret (v := .agg #[.int .i64 f, .int .i64 p, .int .i64 q]) (by simp [results, Try.results38, go_sem, r0, r1, r2]) rfl ?_
  exact ⟨rfl, hlast.out⟩
set_option maxHeartbeats 1000000 in
theorem llist_any (A : Option Addr) (n c : Nat) (w : World) : Calls Try.prog 37 #[.slice A n c] w fun e w' => e = .returned (.slice A n c) ∧ Below w.heap.size w w' := by
  go_enter Try.func37, Try.ntmps37
  go_wp2
  go_ret
  exact ⟨rfl, (by repeat' (first | with_reducible exact Below.refl _ _ | with_reducible assumption | with_reducible apply Below.drew | with_reducible apply below_drewN | with_reducible apply Below.alloc | with_reducible apply Below.setCell | (with_reducible refine Below.trans ?_ (Below.mono (by assumption) ?_)) | (simp; done) | (simp; omega) | omega | with_reducible apply le_size_alloc | with_reducible apply le_size_drewN | with_reducible apply le_size_drew | with_reducible apply le_size_setCell | refine Nat.le_trans ?_ (Below.size (by assumption))))⟩

set_option maxRecDepth 100000 in
set_option maxHeartbeats 2000000 in
theorem shown_any (w : World) : Calls Try.prog 35 #[] w fun e w' => ∃ A c, e = .returned (.tuple #[.slice A 3 c, .bool true]) ∧ CR mapE w' A c [(4, 1, 9), (5, 1, 3), (5, 2, 0)] ∧ Below w.heap.size w w' := by
  have h1 : Hid (addM [] 5 (1, 3) = ([(5, 1, 3)], 0)) := by show _ = _; decide +kernel
  have h2 : Hid (addM [(5, 1, 3)] 5 (2, 0) = ([(5, 1, 3), (5, 2, 0)], 0)) := by show _ = _; decide +kernel
  have h3 : Hid (addM [(5, 1, 3), (5, 2, 0)] 4 (1, 9) = ([(4, 1, 9), (5, 1, 3), (5, 2, 0)], 0)) := by show _ = _; decide +kernel
  have B : Hid (Below w.heap.size w w) := Below.refl _ _
  go_enter Try.func35, Try.ntmps35
  go_wp2_with fail
  refine (lat_any 1 3 _).mono ?_
  rintro e x1 ⟨rfl, hb⟩
  have b : Below w.heap.size w x1 := (by repeat' (first | with_reducible exact Below.refl _ _ | with_reducible assumption | with_reducible apply Below.drew | with_reducible apply below_drewN | with_reducible apply Below.alloc | with_reducible apply Below.setCell | (with_reducible refine Below.trans ?_ (Below.mono (by assumption) ?_)) | (simp; done) | (simp; omega) | omega | with_reducible apply le_size_alloc | with_reducible apply le_size_drewN | with_reducible apply le_size_drew | with_reducible apply le_size_setCell | refine Nat.le_trans ?_ (Below.size (by assumption))))
  clear hb
  replace B : Hid (Below w.heap.size w x1) := B.out.trans (b.mono B.out.size)
  clear b
  go_wp2_with fail
  refine (Add_any none 0 [] 5 1 3 _ SR.nil (by simp)).mono ?_
  unfold LePost
  rw [h1.out]
  rintro e x2 ⟨A1, c1, rfl, hc1, hb⟩
  have b : Below x1.heap.size x1 x2 := (by repeat' (first | with_reducible exact Below.refl _ _ | with_reducible assumption | with_reducible apply Below.drew | with_reducible apply below_drewN | with_reducible apply Below.alloc | with_reducible apply Below.setCell | (with_reducible refine Below.trans ?_ (Below.mono (by assumption) ?_)) | (simp; done) | (simp; omega) | omega | with_reducible apply le_size_alloc | with_reducible apply le_size_drewN | with_reducible apply le_size_drew | with_reducible apply le_size_setCell | refine Nat.le_trans ?_ (Below.size (by assumption))))
  clear hb
  replace B : Hid (Below w.heap.size w x2) := B.out.trans (b.mono B.out.size)
  have C1 : Hid (CR mapE x2 A1 c1 [(5, 1, 3)]) := hc1
  clear hc1
  clear b
  go_wp2_with fail
  refine (lat_any 2 0 _).mono ?_
  rintro e x3 ⟨rfl, hb⟩
  have b : Below x2.heap.size x2 x3 := (by repeat' (first | with_reducible exact Below.refl _ _ | with_reducible assumption | with_reducible apply Below.drew | with_reducible apply below_drewN | with_reducible apply Below.alloc | with_reducible apply Below.setCell | (with_reducible refine Below.trans ?_ (Below.mono (by assumption) ?_)) | (simp; done) | (simp; omega) | omega | with_reducible apply le_size_alloc | with_reducible apply le_size_drewN | with_reducible apply le_size_drew | with_reducible apply le_size_setCell | refine Nat.le_trans ?_ (Below.size (by assumption))))
  clear hb
  replace C1 : Hid (CR mapE x3 A1 c1 [(5, 1, 3)]) := C1.out.ext b
  replace B : Hid (Below w.heap.size w x3) := B.out.trans (b.mono B.out.size)
  clear b
  go_wp2_with fail
  refine (Add_any A1 c1 [(5, 1, 3)] 5 2 0 _ C1.out.1 (by simp)).mono ?_
  unfold LePost
  rw [h2.out]
  rintro e x4 ⟨A2, c2, rfl, hc2, hb⟩
  have b : Below x3.heap.size x3 x4 := (by repeat' (first | with_reducible exact Below.refl _ _ | with_reducible assumption | with_reducible apply Below.drew | with_reducible apply below_drewN | with_reducible apply Below.alloc | with_reducible apply Below.setCell | (with_reducible refine Below.trans ?_ (Below.mono (by assumption) ?_)) | (simp; done) | (simp; omega) | omega | with_reducible apply le_size_alloc | with_reducible apply le_size_drewN | with_reducible apply le_size_drew | with_reducible apply le_size_setCell | refine Nat.le_trans ?_ (Below.size (by assumption))))
  clear hb
  replace C1 : Hid (CR mapE x4 A1 c1 [(5, 1, 3)]) := C1.out.ext b
  replace B : Hid (Below w.heap.size w x4) := B.out.trans (b.mono B.out.size)
  have C2 : Hid (CR mapE x4 A2 c2 [(5, 1, 3), (5, 2, 0)]) := hc2
  clear hc2
  clear b
  go_wp2_with fail
  refine (lat_any 1 9 _).mono ?_
  rintro e x5 ⟨rfl, hb⟩
  have b : Below x4.heap.size x4 x5 := (by repeat' (first | with_reducible exact Below.refl _ _ | with_reducible assumption | with_reducible apply Below.drew | with_reducible apply below_drewN | with_reducible apply Below.alloc | with_reducible apply Below.setCell | (with_reducible refine Below.trans ?_ (Below.mono (by assumption) ?_)) | (simp; done) | (simp; omega) | omega | with_reducible apply le_size_alloc | with_reducible apply le_size_drewN | with_reducible apply le_size_drew | with_reducible apply le_size_setCell | refine Nat.le_trans ?_ (Below.size (by assumption))))
  clear hb
  replace C1 : Hid (CR mapE x5 A1 c1 [(5, 1, 3)]) := C1.out.ext b
  replace C2 : Hid (CR mapE x5 A2 c2 [(5, 1, 3), (5, 2, 0)]) := C2.out.ext b
  replace B : Hid (Below w.heap.size w x5) := B.out.trans (b.mono B.out.size)
  clear b
  go_wp2_with fail
  refine (Add_any A2 c2 [(5, 1, 3), (5, 2, 0)] 4 1 9 _ C2.out.1 (by simp)).mono ?_
  unfold LePost
  rw [h3.out]
  rintro e x6 ⟨A3, c3, rfl, hc3, hb⟩
  have b : Below x5.heap.size x5 x6 := (by repeat' (first | with_reducible exact Below.refl _ _ | with_reducible assumption | with_reducible apply Below.drew | with_reducible apply below_drewN | with_reducible apply Below.alloc | with_reducible apply Below.setCell | (with_reducible refine Below.trans ?_ (Below.mono (by assumption) ?_)) | (simp; done) | (simp; omega) | omega | with_reducible apply le_size_alloc | with_reducible apply le_size_drewN | with_reducible apply le_size_drew | with_reducible apply le_size_setCell | refine Nat.le_trans ?_ (Below.size (by assumption))))
  clear hb
  replace C1 : Hid (CR mapE x6 A1 c1 [(5, 1, 3)]) := C1.out.ext b
  replace C2 : Hid (CR mapE x6 A2 c2 [(5, 1, 3), (5, 2, 0)]) := C2.out.ext b
  replace B : Hid (Below w.heap.size w x6) := B.out.trans (b.mono B.out.size)
  have C3 : Hid (CR mapE x6 A3 c3 [(4, 1, 9), (5, 1, 3), (5, 2, 0)]) := hc3
  clear hc3
  clear b
  clear C1
  clear C2
  go_wp2_with fail
  refine (lm_any 4 1 9 _).mono ?_
  rintro e x7 ⟨rfl, hb⟩
  have b : Below x6.heap.size x6 x7 := (by repeat' (first | with_reducible exact Below.refl _ _ | with_reducible assumption | with_reducible apply Below.drew | with_reducible apply below_drewN | with_reducible apply Below.alloc | with_reducible apply Below.setCell | (with_reducible refine Below.trans ?_ (Below.mono (by assumption) ?_)) | (simp; done) | (simp; omega) | omega | with_reducible apply le_size_alloc | with_reducible apply le_size_drewN | with_reducible apply le_size_drew | with_reducible apply le_size_setCell | refine Nat.le_trans ?_ (Below.size (by assumption))))
  clear hb
  replace C3 : Hid (CR mapE x7 A3 c3 [(4, 1, 9), (5, 1, 3), (5, 2, 0)]) := C3.out.ext b
  replace B : Hid (Below w.heap.size w x7) := B.out.trans (b.mono B.out.size)
  clear b
  go_wp2_with fail
  refine (lm_any 5 1 3 _).mono ?_
  rintro e x8 ⟨rfl, hb⟩
  have b : Below x7.heap.size x7 x8 := (by repeat' (first | with_reducible exact Below.refl _ _ | with_reducible assumption | with_reducible apply Below.drew | with_reducible apply below_drewN | with_reducible apply Below.alloc | with_reducible apply Below.setCell | (with_reducible refine Below.trans ?_ (Below.mono (by assumption) ?_)) | (simp; done) | (simp; omega) | omega | with_reducible apply le_size_alloc | with_reducible apply le_size_drewN | with_reducible apply le_size_drew | with_reducible apply le_size_setCell | refine Nat.le_trans ?_ (Below.size (by assumption))))
  clear hb
  replace C3 : Hid (CR mapE x8 A3 c3 [(4, 1, 9), (5, 1, 3), (5, 2, 0)]) := C3.out.ext b
  replace B : Hid (Below w.heap.size w x8) := B.out.trans (b.mono B.out.size)
  clear b
  go_wp2_with fail
  refine (lm_any 5 2 0 _).mono ?_
  rintro e x9 ⟨rfl, hb⟩
  have b : Below x8.heap.size x8 x9 := (by repeat' (first | with_reducible exact Below.refl _ _ | with_reducible assumption | with_reducible apply Below.drew | with_reducible apply below_drewN | with_reducible apply Below.alloc | with_reducible apply Below.setCell | (with_reducible refine Below.trans ?_ (Below.mono (by assumption) ?_)) | (simp; done) | (simp; omega) | omega | with_reducible apply le_size_alloc | with_reducible apply le_size_drewN | with_reducible apply le_size_drew | with_reducible apply le_size_setCell | refine Nat.le_trans ?_ (Below.size (by assumption))))
  clear hb
  replace C3 : Hid (CR mapE x9 A3 c3 [(4, 1, 9), (5, 1, 3), (5, 2, 0)]) := C3.out.ext b
  replace B : Hid (Below w.heap.size w x9) := B.out.trans (b.mono B.out.size)
  clear b
  go_wp2_with fail
  have q : SR mapE (x9.alloc (.cells (mapE.flat [(4, 1, 9), (5, 1, 3), (5, 2, 0)]).toArray 59)) (some ⟨x9.heap.size, 0, none⟩) [(4, 1, 9), (5, 1, 3), (5, 2, 0)] := SR.of_blk (Blk.new_ rfl rfl)
  refine (llist_any (some ⟨x9.heap.size, 0, none⟩) 3 3 _).mono ?_
  rintro e x10 ⟨rfl, hb⟩
  have HL : Hid (SR mapE x10 (some ⟨x9.heap.size, 0, none⟩) [(4, 1, 9), (5, 1, 3), (5, 2, 0)]) := q.ext hb
  have b : Below x9.heap.size x9 x10 := (by repeat' (first | with_reducible exact Below.refl _ _ | with_reducible assumption | with_reducible apply Below.drew | with_reducible apply below_drewN | with_reducible apply Below.alloc | with_reducible apply Below.setCell | (with_reducible refine Below.trans ?_ (Below.mono (by assumption) ?_)) | (simp; done) | (simp; omega) | omega | with_reducible apply le_size_alloc | with_reducible apply le_size_drewN | with_reducible apply le_size_drew | with_reducible apply le_size_setCell | refine Nat.le_trans ?_ (Below.size (by assumption))))
  clear hb q
  replace C3 : Hid (CR mapE x10 A3 c3 [(4, 1, 9), (5, 1, 3), (5, 2, 0)]) := C3.out.ext b
  replace B : Hid (Below w.heap.size w x10) := B.out.trans (b.mono B.out.size)
  clear b
  go_wp2_with fail
  refine (SameMaps_any A3 (some ⟨x9.heap.size, 0, none⟩) c3 3 [(4, 1, 9), (5, 1, 3), (5, 2, 0)] [(4, 1, 9), (5, 1, 3), (5, 2, 0)] _ (C3.out.1) HL.out (by simp) (by simp)).mono ?_
  rw [decide_eq_true rfl]
  rintro e x11 ⟨rfl, hb⟩
  have b : Below x10.heap.size x10 x11 := (by repeat' (first | with_reducible exact Below.refl _ _ | with_reducible assumption | with_reducible apply Below.drew | with_reducible apply below_drewN | with_reducible apply Below.alloc | with_reducible apply Below.setCell | (with_reducible refine Below.trans ?_ (Below.mono (by assumption) ?_)) | (simp; done) | (simp; omega) | omega | with_reducible apply le_size_alloc | with_reducible apply le_size_drewN | with_reducible apply le_size_drew | with_reducible apply le_size_setCell | refine Nat.le_trans ?_ (Below.size (by assumption))))
  clear hb
  replace C3 : Hid (CR mapE x11 A3 c3 [(4, 1, 9), (5, 1, 3), (5, 2, 0)]) := C3.out.ext b
  replace B : Hid (Below w.heap.size w x11) := B.out.trans (b.mono B.out.size)
  clear b
  clear HL
  go_wp2_with fail
  refine bodyPost_ret (v := .tuple #[.slice A3 3 c3, .bool true]) (by simp [results, Try.results35, go_sem]) rfl ?_
  exact ⟨A3, c3, rfl, C3.out, B.out⟩

set_option maxRecDepth 100000 in
set_option maxHeartbeats 4000000 in
theorem awake_any (w : World) : Calls Try.prog 10 #[] w fun e w' => e = .returned (.bool true) ∧ Below w.heap.size w w' := by
  have h1 : Hid (ofM [(4, 1, 9), (5, 1, 3), (5, 2, 0)] 5 = ([(1, 3), (2, 0)], 0)) := by show _ = _; decide +kernel
  have h2 : Hid (remM [(4, 1, 9), (5, 1, 3), (5, 2, 0)] (1, 3) = ([(4, 1, 9), (5, 2, 0)], 5, 1, 0)) := by show _ = _; decide +kernel
  have h3 : Hid (extM [(4, 1, 9), (5, 1, 3), (5, 2, 0)] 1 = ([(5, 2, 0)], [4], 0)) := by show _ = _; decide +kernel
  have B : Hid (Below w.heap.size w w) := Below.refl _ _
  go_enter Try.func10, Try.ntmps10
  go_wp2_with fail
  refine (shown_any _).mono ?_
  rintro e x1 ⟨A0, c0, rfl, hc0, hb⟩
  have b : Below w.heap.size w x1 := (by repeat' (first | with_reducible exact Below.refl _ _ | with_reducible assumption | with_reducible apply Below.drew | with_reducible apply below_drewN | with_reducible apply Below.alloc | with_reducible apply Below.setCell | (with_reducible refine Below.trans ?_ (Below.mono (by assumption) ?_)) | (simp; done) | (simp; omega) | omega | with_reducible apply le_size_alloc | with_reducible apply le_size_drewN | with_reducible apply le_size_drew | with_reducible apply le_size_setCell | refine Nat.le_trans ?_ (Below.size (by assumption))))
  clear hb
  replace B : Hid (Below w.heap.size w x1) := B.out.trans (b.mono B.out.size)
  have C0 : Hid (CR mapE x1 A0 c0 [(4, 1, 9), (5, 1, 3), (5, 2, 0)]) := hc0
  clear hc0
  clear b
  go_wp2_with fail
  refine (Of_any A0 c0 [(4, 1, 9), (5, 1, 3), (5, 2, 0)] 5 _ C0.out.1 (by simp)).mono ?_
  unfold OfPost
  rw [h1.out]
  rintro e x2 ⟨A1, c1, rfl, hc1, hb⟩
  have b : Below x1.heap.size x1 x2 := (by repeat' (first | with_reducible exact Below.refl _ _ | with_reducible assumption | with_reducible apply Below.drew | with_reducible apply below_drewN | with_reducible apply Below.alloc | with_reducible apply Below.setCell | (with_reducible refine Below.trans ?_ (Below.mono (by assumption) ?_)) | (simp; done) | (simp; omega) | omega | with_reducible apply le_size_alloc | with_reducible apply le_size_drewN | with_reducible apply le_size_drew | with_reducible apply le_size_setCell | refine Nat.le_trans ?_ (Below.size (by assumption))))
  clear hb
  replace C0 : Hid (CR mapE x2 A0 c0 [(4, 1, 9), (5, 1, 3), (5, 2, 0)]) := C0.out.ext b
  replace B : Hid (Below w.heap.size w x2) := B.out.trans (b.mono B.out.size)
  have C1 : Hid (CR plE x2 A1 c1 [(1, 3), (2, 0)]) := hc1
  clear hc1
  clear b
  go_wp2_with fail
  refine (lat_any 1 3 _).mono ?_
  rintro e x3 ⟨rfl, hb⟩
  have b : Below x2.heap.size x2 x3 := (by repeat' (first | with_reducible exact Below.refl _ _ | with_reducible assumption | with_reducible apply Below.drew | with_reducible apply below_drewN | with_reducible apply Below.alloc | with_reducible apply Below.setCell | (with_reducible refine Below.trans ?_ (Below.mono (by assumption) ?_)) | (simp; done) | (simp; omega) | omega | with_reducible apply le_size_alloc | with_reducible apply le_size_drewN | with_reducible apply le_size_drew | with_reducible apply le_size_setCell | refine Nat.le_trans ?_ (Below.size (by assumption))))
  clear hb
  replace C0 : Hid (CR mapE x3 A0 c0 [(4, 1, 9), (5, 1, 3), (5, 2, 0)]) := C0.out.ext b
  replace C1 : Hid (CR plE x3 A1 c1 [(1, 3), (2, 0)]) := C1.out.ext b
  replace B : Hid (Below w.heap.size w x3) := B.out.trans (b.mono B.out.size)
  clear b
  go_wp2_with fail
  refine (Remove_any A0 c0 [(4, 1, 9), (5, 1, 3), (5, 2, 0)] 1 3 _ C0.out.1 (by simp)).mono ?_
  unfold RemPost
  rw [h2.out]
  rintro e x4 ⟨A2, c2, rfl, hc2, hb⟩
  have b : Below x3.heap.size x3 x4 := (by repeat' (first | with_reducible exact Below.refl _ _ | with_reducible assumption | with_reducible apply Below.drew | with_reducible apply below_drewN | with_reducible apply Below.alloc | with_reducible apply Below.setCell | (with_reducible refine Below.trans ?_ (Below.mono (by assumption) ?_)) | (simp; done) | (simp; omega) | omega | with_reducible apply le_size_alloc | with_reducible apply le_size_drewN | with_reducible apply le_size_drew | with_reducible apply le_size_setCell | refine Nat.le_trans ?_ (Below.size (by assumption))))
  clear hb
  replace C0 : Hid (CR mapE x4 A0 c0 [(4, 1, 9), (5, 1, 3), (5, 2, 0)]) := C0.out.ext b
  replace C1 : Hid (CR plE x4 A1 c1 [(1, 3), (2, 0)]) := C1.out.ext b
  replace B : Hid (Below w.heap.size w x4) := B.out.trans (b.mono B.out.size)
  have C2 : Hid (CR mapE x4 A2 c2 [(4, 1, 9), (5, 2, 0)]) := hc2
  clear hc2
  clear b
  go_wp2_with fail
  refine (Exit_any A0 c0 [(4, 1, 9), (5, 1, 3), (5, 2, 0)] 1 _ C0.out.1 (by simp)).mono ?_
  unfold ExtPost
  rw [h3.out]
  rintro e x5 ⟨A3, c3, A4, c4, rfl, hc3, hc4, hb⟩
  have b : Below x4.heap.size x4 x5 := (by repeat' (first | with_reducible exact Below.refl _ _ | with_reducible assumption | with_reducible apply Below.drew | with_reducible apply below_drewN | with_reducible apply Below.alloc | with_reducible apply Below.setCell | (with_reducible refine Below.trans ?_ (Below.mono (by assumption) ?_)) | (simp; done) | (simp; omega) | omega | with_reducible apply le_size_alloc | with_reducible apply le_size_drewN | with_reducible apply le_size_drew | with_reducible apply le_size_setCell | refine Nat.le_trans ?_ (Below.size (by assumption))))
  clear hb
  replace C0 : Hid (CR mapE x5 A0 c0 [(4, 1, 9), (5, 1, 3), (5, 2, 0)]) := C0.out.ext b
  replace C1 : Hid (CR plE x5 A1 c1 [(1, 3), (2, 0)]) := C1.out.ext b
  replace C2 : Hid (CR mapE x5 A2 c2 [(4, 1, 9), (5, 2, 0)]) := C2.out.ext b
  replace B : Hid (Below w.heap.size w x5) := B.out.trans (b.mono B.out.size)
  have C3 : Hid (CR mapE x5 A3 c3 [(5, 2, 0)]) := hc3
  have C4 : Hid (Sl x5 (.int .i64) A4 [4]) := hc4
  clear hc3
  clear hc4
  clear b
  clear C0
  go_wp2_with fail
  refine (lat_any 1 3 _).mono ?_
  rintro e x6 ⟨rfl, hb⟩
  have b : Below x5.heap.size x5 x6 := (by repeat' (first | with_reducible exact Below.refl _ _ | with_reducible assumption | with_reducible apply Below.drew | with_reducible apply below_drewN | with_reducible apply Below.alloc | with_reducible apply Below.setCell | (with_reducible refine Below.trans ?_ (Below.mono (by assumption) ?_)) | (simp; done) | (simp; omega) | omega | with_reducible apply le_size_alloc | with_reducible apply le_size_drewN | with_reducible apply le_size_drew | with_reducible apply le_size_setCell | refine Nat.le_trans ?_ (Below.size (by assumption))))
  clear hb
  replace C1 : Hid (CR plE x6 A1 c1 [(1, 3), (2, 0)]) := C1.out.ext b
  replace C2 : Hid (CR mapE x6 A2 c2 [(4, 1, 9), (5, 2, 0)]) := C2.out.ext b
  replace C3 : Hid (CR mapE x6 A3 c3 [(5, 2, 0)]) := C3.out.ext b
  replace C4 : Hid (Sl x6 (.int .i64) A4 [4]) := C4.out.ext b
  replace B : Hid (Below w.heap.size w x6) := B.out.trans (b.mono B.out.size)
  clear b
  go_wp2_with fail
  refine (lat_any 2 0 _).mono ?_
  rintro e x7 ⟨rfl, hb⟩
  have b : Below x6.heap.size x6 x7 := (by repeat' (first | with_reducible exact Below.refl _ _ | with_reducible assumption | with_reducible apply Below.drew | with_reducible apply below_drewN | with_reducible apply Below.alloc | with_reducible apply Below.setCell | (with_reducible refine Below.trans ?_ (Below.mono (by assumption) ?_)) | (simp; done) | (simp; omega) | omega | with_reducible apply le_size_alloc | with_reducible apply le_size_drewN | with_reducible apply le_size_drew | with_reducible apply le_size_setCell | refine Nat.le_trans ?_ (Below.size (by assumption))))
  clear hb
  replace C1 : Hid (CR plE x7 A1 c1 [(1, 3), (2, 0)]) := C1.out.ext b
  replace C2 : Hid (CR mapE x7 A2 c2 [(4, 1, 9), (5, 2, 0)]) := C2.out.ext b
  replace C3 : Hid (CR mapE x7 A3 c3 [(5, 2, 0)]) := C3.out.ext b
  replace C4 : Hid (Sl x7 (.int .i64) A4 [4]) := C4.out.ext b
  replace B : Hid (Below w.heap.size w x7) := B.out.trans (b.mono B.out.size)
  clear b
  go_wp2_with fail
  refine (places_any A1 (some ⟨x7.heap.size, 0, none⟩) c1 2 [(1, 3), (2, 0)] [(1, 3), (2, 0)] _ (C1.out.1.ext (by repeat' (first | with_reducible exact Below.refl _ _ | with_reducible assumption | with_reducible apply Below.drew | with_reducible apply below_drewN | with_reducible apply Below.alloc | with_reducible apply Below.setCell | (with_reducible refine Below.trans ?_ (Below.mono (by assumption) ?_)) | (simp; done) | (simp; omega) | omega | with_reducible apply le_size_alloc | with_reducible apply le_size_drewN | with_reducible apply le_size_drew | with_reducible apply le_size_setCell | refine Nat.le_trans ?_ (Below.size (by assumption))))) (SR.of_blk (E := plE) (l := [(1, 3), (2, 0)]) (t := 24) (Blk.new_ rfl rfl)) (by simp) (by simp)).mono ?_
  rw [decide_eq_true rfl]
  rintro e x8 ⟨rfl, hb⟩
  have b : Below x7.heap.size x7 x8 := (by repeat' (first | with_reducible exact Below.refl _ _ | with_reducible assumption | with_reducible apply Below.drew | with_reducible apply below_drewN | with_reducible apply Below.alloc | with_reducible apply Below.setCell | (with_reducible refine Below.trans ?_ (Below.mono (by assumption) ?_)) | (simp; done) | (simp; omega) | omega | with_reducible apply le_size_alloc | with_reducible apply le_size_drewN | with_reducible apply le_size_drew | with_reducible apply le_size_setCell | refine Nat.le_trans ?_ (Below.size (by assumption))))
  clear hb
  replace C1 : Hid (CR plE x8 A1 c1 [(1, 3), (2, 0)]) := C1.out.ext b
  replace C2 : Hid (CR mapE x8 A2 c2 [(4, 1, 9), (5, 2, 0)]) := C2.out.ext b
  replace C3 : Hid (CR mapE x8 A3 c3 [(5, 2, 0)]) := C3.out.ext b
  replace C4 : Hid (Sl x8 (.int .i64) A4 [4]) := C4.out.ext b
  replace B : Hid (Below w.heap.size w x8) := B.out.trans (b.mono B.out.size)
  clear b
  go_wp2_with fail
  refine (lm_any 4 1 9 _).mono ?_
  rintro e x9 ⟨rfl, hb⟩
  have b : Below x8.heap.size x8 x9 := (by repeat' (first | with_reducible exact Below.refl _ _ | with_reducible assumption | with_reducible apply Below.drew | with_reducible apply below_drewN | with_reducible apply Below.alloc | with_reducible apply Below.setCell | (with_reducible refine Below.trans ?_ (Below.mono (by assumption) ?_)) | (simp; done) | (simp; omega) | omega | with_reducible apply le_size_alloc | with_reducible apply le_size_drewN | with_reducible apply le_size_drew | with_reducible apply le_size_setCell | refine Nat.le_trans ?_ (Below.size (by assumption))))
  clear hb
  replace C1 : Hid (CR plE x9 A1 c1 [(1, 3), (2, 0)]) := C1.out.ext b
  replace C2 : Hid (CR mapE x9 A2 c2 [(4, 1, 9), (5, 2, 0)]) := C2.out.ext b
  replace C3 : Hid (CR mapE x9 A3 c3 [(5, 2, 0)]) := C3.out.ext b
  replace C4 : Hid (Sl x9 (.int .i64) A4 [4]) := C4.out.ext b
  replace B : Hid (Below w.heap.size w x9) := B.out.trans (b.mono B.out.size)
  clear b
  go_wp2_with fail
  refine (lm_any 5 2 0 _).mono ?_
  rintro e x10 ⟨rfl, hb⟩
  have b : Below x9.heap.size x9 x10 := (by repeat' (first | with_reducible exact Below.refl _ _ | with_reducible assumption | with_reducible apply Below.drew | with_reducible apply below_drewN | with_reducible apply Below.alloc | with_reducible apply Below.setCell | (with_reducible refine Below.trans ?_ (Below.mono (by assumption) ?_)) | (simp; done) | (simp; omega) | omega | with_reducible apply le_size_alloc | with_reducible apply le_size_drewN | with_reducible apply le_size_drew | with_reducible apply le_size_setCell | refine Nat.le_trans ?_ (Below.size (by assumption))))
  clear hb
  replace C1 : Hid (CR plE x10 A1 c1 [(1, 3), (2, 0)]) := C1.out.ext b
  replace C2 : Hid (CR mapE x10 A2 c2 [(4, 1, 9), (5, 2, 0)]) := C2.out.ext b
  replace C3 : Hid (CR mapE x10 A3 c3 [(5, 2, 0)]) := C3.out.ext b
  replace C4 : Hid (Sl x10 (.int .i64) A4 [4]) := C4.out.ext b
  replace B : Hid (Below w.heap.size w x10) := B.out.trans (b.mono B.out.size)
  clear b
  go_wp2_with fail
  have q : SR mapE (x10.alloc (.cells (mapE.flat [(4, 1, 9), (5, 2, 0)]).toArray 59)) (some ⟨x10.heap.size, 0, none⟩) [(4, 1, 9), (5, 2, 0)] := SR.of_blk (Blk.new_ rfl rfl)
  refine (llist_any (some ⟨x10.heap.size, 0, none⟩) 2 2 _).mono ?_
  rintro e x11 ⟨rfl, hb⟩
  have HL : Hid (SR mapE x11 (some ⟨x10.heap.size, 0, none⟩) [(4, 1, 9), (5, 2, 0)]) := q.ext hb
  have b : Below x10.heap.size x10 x11 := (by repeat' (first | with_reducible exact Below.refl _ _ | with_reducible assumption | with_reducible apply Below.drew | with_reducible apply below_drewN | with_reducible apply Below.alloc | with_reducible apply Below.setCell | (with_reducible refine Below.trans ?_ (Below.mono (by assumption) ?_)) | (simp; done) | (simp; omega) | omega | with_reducible apply le_size_alloc | with_reducible apply le_size_drewN | with_reducible apply le_size_drew | with_reducible apply le_size_setCell | refine Nat.le_trans ?_ (Below.size (by assumption))))
  clear hb q
  replace C1 : Hid (CR plE x11 A1 c1 [(1, 3), (2, 0)]) := C1.out.ext b
  replace C2 : Hid (CR mapE x11 A2 c2 [(4, 1, 9), (5, 2, 0)]) := C2.out.ext b
  replace C3 : Hid (CR mapE x11 A3 c3 [(5, 2, 0)]) := C3.out.ext b
  replace C4 : Hid (Sl x11 (.int .i64) A4 [4]) := C4.out.ext b
  replace B : Hid (Below w.heap.size w x11) := B.out.trans (b.mono B.out.size)
  clear b
  go_wp2_with fail
  refine (SameMaps_any A2 (some ⟨x10.heap.size, 0, none⟩) c2 2 [(4, 1, 9), (5, 2, 0)] [(4, 1, 9), (5, 2, 0)] _ (C2.out.1) HL.out (by simp) (by simp)).mono ?_
  rw [decide_eq_true rfl]
  rintro e x12 ⟨rfl, hb⟩
  have b : Below x11.heap.size x11 x12 := (by repeat' (first | with_reducible exact Below.refl _ _ | with_reducible assumption | with_reducible apply Below.drew | with_reducible apply below_drewN | with_reducible apply Below.alloc | with_reducible apply Below.setCell | (with_reducible refine Below.trans ?_ (Below.mono (by assumption) ?_)) | (simp; done) | (simp; omega) | omega | with_reducible apply le_size_alloc | with_reducible apply le_size_drewN | with_reducible apply le_size_drew | with_reducible apply le_size_setCell | refine Nat.le_trans ?_ (Below.size (by assumption))))
  clear hb
  replace C1 : Hid (CR plE x12 A1 c1 [(1, 3), (2, 0)]) := C1.out.ext b
  replace C2 : Hid (CR mapE x12 A2 c2 [(4, 1, 9), (5, 2, 0)]) := C2.out.ext b
  replace C3 : Hid (CR mapE x12 A3 c3 [(5, 2, 0)]) := C3.out.ext b
  replace C4 : Hid (Sl x12 (.int .i64) A4 [4]) := C4.out.ext b
  replace B : Hid (Below w.heap.size w x12) := B.out.trans (b.mono B.out.size)
  clear b
  clear HL
  go_wp2_with fail
  refine (lm_any 5 2 0 _).mono ?_
  rintro e x13 ⟨rfl, hb⟩
  have b : Below x12.heap.size x12 x13 := (by repeat' (first | with_reducible exact Below.refl _ _ | with_reducible assumption | with_reducible apply Below.drew | with_reducible apply below_drewN | with_reducible apply Below.alloc | with_reducible apply Below.setCell | (with_reducible refine Below.trans ?_ (Below.mono (by assumption) ?_)) | (simp; done) | (simp; omega) | omega | with_reducible apply le_size_alloc | with_reducible apply le_size_drewN | with_reducible apply le_size_drew | with_reducible apply le_size_setCell | refine Nat.le_trans ?_ (Below.size (by assumption))))
  clear hb
  replace C1 : Hid (CR plE x13 A1 c1 [(1, 3), (2, 0)]) := C1.out.ext b
  replace C2 : Hid (CR mapE x13 A2 c2 [(4, 1, 9), (5, 2, 0)]) := C2.out.ext b
  replace C3 : Hid (CR mapE x13 A3 c3 [(5, 2, 0)]) := C3.out.ext b
  replace C4 : Hid (Sl x13 (.int .i64) A4 [4]) := C4.out.ext b
  replace B : Hid (Below w.heap.size w x13) := B.out.trans (b.mono B.out.size)
  clear b
  go_wp2_with fail
  have q : SR mapE (x13.alloc (.cells (mapE.flat [(5, 2, 0)]).toArray 59)) (some ⟨x13.heap.size, 0, none⟩) [(5, 2, 0)] := SR.of_blk (Blk.new_ rfl rfl)
  refine (llist_any (some ⟨x13.heap.size, 0, none⟩) 1 1 _).mono ?_
  rintro e x14 ⟨rfl, hb⟩
  have HL : Hid (SR mapE x14 (some ⟨x13.heap.size, 0, none⟩) [(5, 2, 0)]) := q.ext hb
  have b : Below x13.heap.size x13 x14 := (by repeat' (first | with_reducible exact Below.refl _ _ | with_reducible assumption | with_reducible apply Below.drew | with_reducible apply below_drewN | with_reducible apply Below.alloc | with_reducible apply Below.setCell | (with_reducible refine Below.trans ?_ (Below.mono (by assumption) ?_)) | (simp; done) | (simp; omega) | omega | with_reducible apply le_size_alloc | with_reducible apply le_size_drewN | with_reducible apply le_size_drew | with_reducible apply le_size_setCell | refine Nat.le_trans ?_ (Below.size (by assumption))))
  clear hb q
  replace C1 : Hid (CR plE x14 A1 c1 [(1, 3), (2, 0)]) := C1.out.ext b
  replace C2 : Hid (CR mapE x14 A2 c2 [(4, 1, 9), (5, 2, 0)]) := C2.out.ext b
  replace C3 : Hid (CR mapE x14 A3 c3 [(5, 2, 0)]) := C3.out.ext b
  replace C4 : Hid (Sl x14 (.int .i64) A4 [4]) := C4.out.ext b
  replace B : Hid (Below w.heap.size w x14) := B.out.trans (b.mono B.out.size)
  clear b
  go_wp2_with fail
  refine (SameMaps_any A3 (some ⟨x13.heap.size, 0, none⟩) c3 1 [(5, 2, 0)] [(5, 2, 0)] _ (C3.out.1) HL.out (by simp) (by simp)).mono ?_
  rw [decide_eq_true rfl]
  rintro e x15 ⟨rfl, hb⟩
  have b : Below x14.heap.size x14 x15 := (by repeat' (first | with_reducible exact Below.refl _ _ | with_reducible assumption | with_reducible apply Below.drew | with_reducible apply below_drewN | with_reducible apply Below.alloc | with_reducible apply Below.setCell | (with_reducible refine Below.trans ?_ (Below.mono (by assumption) ?_)) | (simp; done) | (simp; omega) | omega | with_reducible apply le_size_alloc | with_reducible apply le_size_drewN | with_reducible apply le_size_drew | with_reducible apply le_size_setCell | refine Nat.le_trans ?_ (Below.size (by assumption))))
  clear hb
  replace C1 : Hid (CR plE x15 A1 c1 [(1, 3), (2, 0)]) := C1.out.ext b
  replace C2 : Hid (CR mapE x15 A2 c2 [(4, 1, 9), (5, 2, 0)]) := C2.out.ext b
  replace C3 : Hid (CR mapE x15 A3 c3 [(5, 2, 0)]) := C3.out.ext b
  replace C4 : Hid (Sl x15 (.int .i64) A4 [4]) := C4.out.ext b
  replace B : Hid (Below w.heap.size w x15) := B.out.trans (b.mono B.out.size)
  clear b
  clear HL
  go_wp2_with fail
  refine (SameInts_any A4 (some ⟨x15.heap.size, 0, none⟩) c4 1 [4] [4] _ (C4.out.ext (by repeat' (first | with_reducible exact Below.refl _ _ | with_reducible assumption | with_reducible apply Below.drew | with_reducible apply below_drewN | with_reducible apply Below.alloc | with_reducible apply Below.setCell | (with_reducible refine Below.trans ?_ (Below.mono (by assumption) ?_)) | (simp; done) | (simp; omega) | omega | with_reducible apply le_size_alloc | with_reducible apply le_size_drewN | with_reducible apply le_size_drew | with_reducible apply le_size_setCell | refine Nat.le_trans ?_ (Below.size (by assumption))))) (Sl.of_lit (t := 3) (xs := [4]) (Blk.new_ rfl rfl)) (by simp) (by simp)).mono ?_
  rw [decide_eq_true rfl]
  rintro e x16 ⟨rfl, hb⟩
  have b : Below x15.heap.size x15 x16 := (by repeat' (first | with_reducible exact Below.refl _ _ | with_reducible assumption | with_reducible apply Below.drew | with_reducible apply below_drewN | with_reducible apply Below.alloc | with_reducible apply Below.setCell | (with_reducible refine Below.trans ?_ (Below.mono (by assumption) ?_)) | (simp; done) | (simp; omega) | omega | with_reducible apply le_size_alloc | with_reducible apply le_size_drewN | with_reducible apply le_size_drew | with_reducible apply le_size_setCell | refine Nat.le_trans ?_ (Below.size (by assumption))))
  clear hb
  replace C1 : Hid (CR plE x16 A1 c1 [(1, 3), (2, 0)]) := C1.out.ext b
  replace C2 : Hid (CR mapE x16 A2 c2 [(4, 1, 9), (5, 2, 0)]) := C2.out.ext b
  replace C3 : Hid (CR mapE x16 A3 c3 [(5, 2, 0)]) := C3.out.ext b
  replace C4 : Hid (Sl x16 (.int .i64) A4 [4]) := C4.out.ext b
  replace B : Hid (Below w.heap.size w x16) := B.out.trans (b.mono B.out.size)
  clear b
  go_wp2_with fail
  go_ret
  exact ⟨rfl, B.out⟩
end Go.Proofs.Ytbeddhamnefpiaa
