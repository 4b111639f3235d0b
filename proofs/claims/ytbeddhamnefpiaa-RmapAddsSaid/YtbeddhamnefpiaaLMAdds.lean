/- RmapAdds. Written by gen_ladds.py. -/
import Derived.Test.YtbeddhamnefpiaaRL4
namespace Go.Proofs.Ytbeddhamnefpiaa
set_option linter.unusedSimpArgs false
set_option linter.unusedVariables false
open Go.RowKit Go.Maps
open Go.ChangeShapes Go.WideShapes Go.ChangeAt Go.Joins Go.Deep


theorem cnsM_at (l : List M3) {k : Nat} (h : k < 256) : ((List.range 256).map (fun f : Nat => cntM l f))[k]? = some (cntM l k) := by
  rw [List.getElem?_map, List.getElem?_range h]; rfl
structure AddsF (l M : List M3) (f : Nat) (q K : Int) (Lc : List Int) : Prop where
  add : addM l f (4, q) = (M, 0)
  fnd : fndM M (4, q) = ((f : Int), 0)
  rem : remM M (4, q) = (l, (f : Int), K, 0)
  mov : movM M (4, q) f = (M, K + 1, 0)
  cns : cnsM l = (Lc, 0)
  len : Lc.length = 256
  at_ : Lc[f]? = some K
  ml : M.length ≤ 1000
  kl : 0 ≤ K ∧ K ≤ 1000
theorem adds_facts {l : List M3} (h : MadeL l) {f : Nat} {q : Int} (hf : f < 256) (hq : 0 ≤ q ∧ q < 64) : ∃ M K Lc, AddsF l M f q K Lc := by
  have hok : okM ((f : Int), 4, q) = true := by rw [okM_iff]; dsimp only; omega
  have hp : okP (4, q) = true := by rw [okP_iff]; dsimp only; omega
  have hn : ∀ m ∈ l, m.2 ≠ (4, q) := fun m hm e => by have := h.lo m hm; rw [e] at this; simp at this
  have hfn := findM_none hn
  have ok2 : OkL (putM l ((f : Int), 4, q)) := h.ok.put hok hn
  have hin : ((f : Int), 4, q) ∈ putM l ((f : Int), 4, q) := mem_putM.2 (.inl rfl)
  have hf2 : findM (putM l ((f : Int), 4, q)) (4, q) = some (f : Int) := findM_of ok2 hin
  have hfd : fndM (putM l ((f : Int), 4, q)) (4, q) = ((f : Int), 0) := by unfold fndM; rw [ok2.chk, if_neg (by simp), if_pos hp, hf2]
  have hdl := del_put h.ok hok hn
  have hc1 : cntM (putM l ((f : Int), 4, q)) f = cntM l f + 1 := by rw [cntM_put, if_pos rfl]
  have hcl := cntM_le l f
  have := h.len
  refine ⟨putM l ((f : Int), 4, q), cntM l f, (List.range 256).map (fun f : Nat => cntM l f), ?_, hfd, ?_, ?_, ?_, by simp, cnsM_at l hf, by rw [putM_len]; omega, by omega⟩
  · rcases addM_ok h.ok hok with ⟨_, h2⟩ | ⟨⟨g, h2⟩, _⟩
    · exact h2
    · rw [hfn] at h2; cases h2
  · unfold remM
    rw [hfd, if_neg (by simp)]
    simp only [hdl, hc1]
    rw [show cntM l (f : Int) + 1 - 1 = cntM l f by omega]
  · unfold movM
    rw [ok2.chk, if_neg (by simp), if_pos hok, hf2]
    simp only [hdl, hc1]
  · unfold cnsM; rw [h.ok.chk, if_neg (by simp)]

set_option maxRecDepth 100000 in
set_option maxHeartbeats 4000000 in
theorem rmapAdds_walk (A : Option Addr) (c : Nat) (nums : List Int) (n : Int) (w : World) (hs : Sl w (.int .i64) A nums) (_hw : ∀ x ∈ nums, (Lit.int .i64 x).wf = true) (hl0 : nums.length ≤ maxLen) (_hn : (Lit.int .i64 n).wf = true) :
    Calls Try.prog 7 #[.slice A nums.length c, .int .i64 n] w fun e w' => e = .returned (.bool true) ∧ Below w.heap.size w w' := by
  have hl : nums.length ≤ 9223372036854775807 := by unfold maxLen at hl0; exact hl0
  have m0 : 0 ≤ n % 1048576 := Int.emod_nonneg _ (by decide)
  have m1 : n % 1048576 < 1048576 := Int.emod_lt_of_pos _ (by decide)
  obtain ⟨y, hy⟩ : ∃ y, n % 1048576 = y := ⟨_, rfl⟩
  rw [hy] at m0 m1
  have HY := Lib.hid hy
  clear hy
  have e1 : y.tmod 64 = y % 64 := Int.tmod_eq_emod_of_nonneg m0
  have e2 : y.tdiv 64 = y / 64 := Int.tdiv_eq_ediv_of_nonneg m0
  obtain ⟨d, hd⟩ : ∃ d, y / 64 = d := ⟨_, rfl⟩
  obtain ⟨q, hq⟩ : ∃ q, y % 64 = q := ⟨_, rfl⟩
  have d0 : 0 ≤ d := by omega
  have hq0 : 0 ≤ q ∧ q < 64 := by omega
  rw [hd] at e2; rw [hq] at e1
  have e3 : d.tmod 256 = d % 256 := Int.tmod_eq_emod_of_nonneg d0
  obtain ⟨f, hf⟩ : ∃ f : Nat, d % 256 = f := ⟨(d % 256).toNat, by omega⟩
  have hf0 : f < 256 := by omega
  rw [hf] at e3
  have HQ0 := Lib.hid hq0
  have i1 : (f : Int) < 256 := by omega
  have HS : Hid (Sl w (.int .i64) A nums) := hs
  clear hs
  have B : Hid (Below w.heap.size w w) := Below.refl _ _
  go_enter Try.func7, Try.ntmps7
  go_wp2_with fail
  refine (known_any _).mono ?_
  rintro e x1 ⟨rfl, hb⟩
  have b : Below w.heap.size w x1 := (by repeat' (first | with_reducible exact Below.refl _ _ | with_reducible assumption | with_reducible apply Below.drew | with_reducible apply below_drewN | with_reducible apply Below.alloc | with_reducible apply Below.setCell | (with_reducible refine Below.trans ?_ (Below.mono (by assumption) ?_)) | (simp; done) | (simp; omega) | omega | with_reducible apply le_size_alloc | with_reducible apply le_size_drewN | with_reducible apply le_size_drew | with_reducible apply le_size_setCell | refine Nat.le_trans ?_ (Below.size (by assumption))))
  clear hb
  replace HS : Hid (Sl x1 (.int .i64) A nums) := HS.out.ext b
  replace B : Hid (Below w.heap.size w x1) := B.out.trans (b.mono B.out.size)
  clear b
  go_wp2_with fail
  refine (made_any A c nums _ HS.out hl).mono ?_
  rintro e x2 ⟨l, A1, c1, rfl, ml, hc1, hb⟩
  have b : Below x1.heap.size x1 x2 := (by repeat' (first | with_reducible exact Below.refl _ _ | with_reducible assumption | with_reducible apply Below.drew | with_reducible apply below_drewN | with_reducible apply Below.alloc | with_reducible apply Below.setCell | (with_reducible refine Below.trans ?_ (Below.mono (by assumption) ?_)) | (simp; done) | (simp; omega) | omega | with_reducible apply le_size_alloc | with_reducible apply le_size_drewN | with_reducible apply le_size_drew | with_reducible apply le_size_setCell | refine Nat.le_trans ?_ (Below.size (by assumption))))
  clear hb
  replace HS : Hid (Sl x2 (.int .i64) A nums) := HS.out.ext b
  replace B : Hid (Below w.heap.size w x2) := B.out.trans (b.mono B.out.size)
  have C1 : Hid (CR mapE x2 A1 c1 l) := hc1
  clear hc1
  clear b
  clear HS
  obtain ⟨M, K, Lc, hF⟩ := adds_facts ml hf0 HQ0.out
  have HF := Lib.hid hF
  have kl := hF.kl
  have hwr : IntKind.i64.wrap (K + 1) = K + 1 := IntWalk.i64_in _ (by omega)
  have LL : Hid (l.length ≤ 1000) := by show _ ≤ _; have := ml.len; omega
  have hLc := hF.len
  clear hF ml
  go_wp2_with fail
  refine (Mod_any _ _ _ (by omega) (by omega)).mono ?_
  rw [HY.out]
  rintro e w' ⟨rfl, rfl⟩
  go_wp2_with fail
  refine (lat_any _ _ _).mono ?_
  rintro e x3 ⟨rfl, hb⟩
  have b : Below x2.heap.size x2 x3 := (by repeat' (first | with_reducible exact Below.refl _ _ | with_reducible assumption | with_reducible apply Below.drew | with_reducible apply below_drewN | with_reducible apply Below.alloc | with_reducible apply Below.setCell | (with_reducible refine Below.trans ?_ (Below.mono (by assumption) ?_)) | (simp; done) | (simp; omega) | omega | with_reducible apply le_size_alloc | with_reducible apply le_size_drewN | with_reducible apply le_size_drew | with_reducible apply le_size_setCell | refine Nat.le_trans ?_ (Below.size (by assumption))))
  clear hb
  replace C1 : Hid (CR mapE x3 A1 c1 l) := C1.out.ext b
  replace B : Hid (Below w.heap.size w x3) := B.out.trans (b.mono B.out.size)
  clear b
  have be : Hid (Below x3.heap.size x3 (x3.alloc (.cells #[.int .i64 4, .int .i64 q] 24))) := by show Below _ _ _; exact (by repeat' (first | with_reducible exact Below.refl _ _ | with_reducible assumption | with_reducible apply Below.drew | with_reducible apply below_drewN | with_reducible apply Below.alloc | with_reducible apply Below.setCell | (with_reducible refine Below.trans ?_ (Below.mono (by assumption) ?_)) | (simp; done) | (simp; omega) | omega | with_reducible apply le_size_alloc | with_reducible apply le_size_drewN | with_reducible apply le_size_drew | with_reducible apply le_size_setCell | refine Nat.le_trans ?_ (Below.size (by assumption))))
  have ke : Hid (Blk (x3.alloc (.cells #[.int .i64 4, .int .i64 q] 24)) x3.heap.size 24 #[.int .i64 4, .int .i64 q]) := Blk.new_ rfl rfl
  go_wp2_with fail
  refine (Add_any A1 c1 l f 4 q (x3.alloc (.cells #[.int .i64 4, .int .i64 q] 24)) (C1.out.1.ext be.out) LL.out).mono ?_
  unfold LePost
  rw [HF.out.add]
  rintro e y1 ⟨A2, c2, rfl, hc2, hb⟩
  have zz := be.out.size
  have b : Below x3.heap.size x3 y1 := be.out.trans (hb.mono zz)
  have KB : Hid (Blk y1 x3.heap.size 24 #[.int .i64 4, .int .i64 q]) := ke.out.below_ hb ke.out.lt
  clear hb zz be ke
  replace C1 : Hid (CR mapE y1 A1 c1 l) := C1.out.ext b
  replace B : Hid (Below w.heap.size w y1) := B.out.trans (b.mono B.out.size)
  have C2 : Hid (CR mapE y1 A2 c2 M) := hc2
  clear hc2
  clear b
  have p0 : y1.cell? ⟨x3.heap.size, 0, none⟩ = some (.int .i64 4) := by simpa using KB.out.cell_ 0
  have p1 : y1.cell? ⟨x3.heap.size, 1, none⟩ = some (.int .i64 q) := by simpa using KB.out.cell_ 1
  have zB : x3.heap.size < y1.heap.size := KB.out.lt
  go_wp2_with fail
  refine (Find_any A2 c2 M 4 q _ C2.out.1 HF.out.ml HF.out.fnd).mono ?_
  rintro e x4 ⟨rfl, hb⟩
  have b : Below y1.heap.size y1 x4 := (by repeat' (first | with_reducible exact Below.refl _ _ | with_reducible assumption | with_reducible apply Below.drew | with_reducible apply below_drewN | with_reducible apply Below.alloc | with_reducible apply Below.setCell | (with_reducible refine Below.trans ?_ (Below.mono (by assumption) ?_)) | (simp; done) | (simp; omega) | omega | with_reducible apply le_size_alloc | with_reducible apply le_size_drewN | with_reducible apply le_size_drew | with_reducible apply le_size_setCell | refine Nat.le_trans ?_ (Below.size (by assumption))))
  clear hb
  replace C1 : Hid (CR mapE x4 A1 c1 l) := C1.out.ext b
  replace C2 : Hid (CR mapE x4 A2 c2 M) := C2.out.ext b
  replace KB : Hid (Blk x4 x3.heap.size 24 #[.int .i64 4, .int .i64 q]) := Blk.below_ KB.out b KB.out.lt
  replace B : Hid (Below w.heap.size w x4) := B.out.trans (b.mono B.out.size)
  clear p0 p1 zB
  clear b
  have p0 : x4.cell? ⟨x3.heap.size, 0, none⟩ = some (.int .i64 4) := by simpa using KB.out.cell_ 0
  have p1 : x4.cell? ⟨x3.heap.size, 1, none⟩ = some (.int .i64 q) := by simpa using KB.out.cell_ 1
  have zB : x3.heap.size < x4.heap.size := KB.out.lt
  go_wp2_with fail
  refine (Remove_any A2 c2 M 4 q _ C2.out.1 HF.out.ml).mono ?_
  unfold RemPost
  rw [HF.out.rem]
  rintro e x5 ⟨A3, c3, rfl, hc3, hb⟩
  have b : Below x4.heap.size x4 x5 := (by repeat' (first | with_reducible exact Below.refl _ _ | with_reducible assumption | with_reducible apply Below.drew | with_reducible apply below_drewN | with_reducible apply Below.alloc | with_reducible apply Below.setCell | (with_reducible refine Below.trans ?_ (Below.mono (by assumption) ?_)) | (simp; done) | (simp; omega) | omega | with_reducible apply le_size_alloc | with_reducible apply le_size_drewN | with_reducible apply le_size_drew | with_reducible apply le_size_setCell | refine Nat.le_trans ?_ (Below.size (by assumption))))
  clear hb
  replace C1 : Hid (CR mapE x5 A1 c1 l) := C1.out.ext b
  replace C2 : Hid (CR mapE x5 A2 c2 M) := C2.out.ext b
  replace KB : Hid (Blk x5 x3.heap.size 24 #[.int .i64 4, .int .i64 q]) := Blk.below_ KB.out b KB.out.lt
  replace B : Hid (Below w.heap.size w x5) := B.out.trans (b.mono B.out.size)
  have C3 : Hid (CR mapE x5 A3 c3 l) := hc3
  clear hc3
  clear p0 p1 zB
  clear b
  have p0 : x5.cell? ⟨x3.heap.size, 0, none⟩ = some (.int .i64 4) := by simpa using KB.out.cell_ 0
  have p1 : x5.cell? ⟨x3.heap.size, 1, none⟩ = some (.int .i64 q) := by simpa using KB.out.cell_ 1
  have zB : x3.heap.size < x5.heap.size := KB.out.lt
  go_wp2_with fail
  refine (Move_any A2 c2 M 4 q f _ C2.out.1 HF.out.ml).mono ?_
  unfold MovPost
  rw [HF.out.mov]
  rintro e x6 ⟨A4, c4, rfl, hc4, hb⟩
  have b : Below x5.heap.size x5 x6 := (by repeat' (first | with_reducible exact Below.refl _ _ | with_reducible assumption | with_reducible apply Below.drew | with_reducible apply below_drewN | with_reducible apply Below.alloc | with_reducible apply Below.setCell | (with_reducible refine Below.trans ?_ (Below.mono (by assumption) ?_)) | (simp; done) | (simp; omega) | omega | with_reducible apply le_size_alloc | with_reducible apply le_size_drewN | with_reducible apply le_size_drew | with_reducible apply le_size_setCell | refine Nat.le_trans ?_ (Below.size (by assumption))))
  clear hb
  replace C1 : Hid (CR mapE x6 A1 c1 l) := C1.out.ext b
  replace C2 : Hid (CR mapE x6 A2 c2 M) := C2.out.ext b
  replace KB : Hid (Blk x6 x3.heap.size 24 #[.int .i64 4, .int .i64 q]) := Blk.below_ KB.out b KB.out.lt
  replace C3 : Hid (CR mapE x6 A3 c3 l) := C3.out.ext b
  replace B : Hid (Below w.heap.size w x6) := B.out.trans (b.mono B.out.size)
  have C4 : Hid (CR mapE x6 A4 c4 M) := hc4
  clear hc4
  clear p0 p1 zB
  clear b
  have p0 : x6.cell? ⟨x3.heap.size, 0, none⟩ = some (.int .i64 4) := by simpa using KB.out.cell_ 0
  have p1 : x6.cell? ⟨x3.heap.size, 1, none⟩ = some (.int .i64 q) := by simpa using KB.out.cell_ 1
  have zB : x3.heap.size < x6.heap.size := KB.out.lt
  go_wp2_with fail
  refine (Counts_any A1 c1 l _ C1.out.1 LL.out).mono ?_
  unfold CnsPost
  rw [HF.out.cns]
  rintro e x7 ⟨A5, c5, rfl, hc5, hb⟩
  have b : Below x6.heap.size x6 x7 := (by repeat' (first | with_reducible exact Below.refl _ _ | with_reducible assumption | with_reducible apply Below.drew | with_reducible apply below_drewN | with_reducible apply Below.alloc | with_reducible apply Below.setCell | (with_reducible refine Below.trans ?_ (Below.mono (by assumption) ?_)) | (simp; done) | (simp; omega) | omega | with_reducible apply le_size_alloc | with_reducible apply le_size_drewN | with_reducible apply le_size_drew | with_reducible apply le_size_setCell | refine Nat.le_trans ?_ (Below.size (by assumption))))
  clear hb
  replace C1 : Hid (CR mapE x7 A1 c1 l) := C1.out.ext b
  replace C2 : Hid (CR mapE x7 A2 c2 M) := C2.out.ext b
  replace KB : Hid (Blk x7 x3.heap.size 24 #[.int .i64 4, .int .i64 q]) := Blk.below_ KB.out b KB.out.lt
  replace C3 : Hid (CR mapE x7 A3 c3 l) := C3.out.ext b
  replace C4 : Hid (CR mapE x7 A4 c4 M) := C4.out.ext b
  replace B : Hid (Below w.heap.size w x7) := B.out.trans (b.mono B.out.size)
  have C5 : Hid (Sl x7 (.int .i64) A5 Lc) := hc5
  clear hc5
  clear p0 p1 zB
  clear b
  have p0 : x7.cell? ⟨x3.heap.size, 0, none⟩ = some (.int .i64 4) := by simpa using KB.out.cell_ 0
  have p1 : x7.cell? ⟨x3.heap.size, 1, none⟩ = some (.int .i64 q) := by simpa using KB.out.cell_ 1
  have zB : x3.heap.size < x7.heap.size := KB.out.lt
  obtain ⟨b5, off5, x5, rfl, hb5, hx5, q5⟩ := C5.out.at_ (k := f) (by rw [hLc]; exact hf0)
  rw [HF.out.at_] at hx5
  injection hx5 with hx5
  subst hx5
  clear C5
  go_wp2_with fail
  refine (SameMaps_any A3 A1 c3 c1 l l _ C3.out.1 C1.out.1 LL.out LL.out).mono ?_
  rw [decide_eq_true rfl]
  rintro e x8 ⟨rfl, hb⟩
  have b : Below x7.heap.size x7 x8 := (by repeat' (first | with_reducible exact Below.refl _ _ | with_reducible assumption | with_reducible apply Below.drew | with_reducible apply below_drewN | with_reducible apply Below.alloc | with_reducible apply Below.setCell | (with_reducible refine Below.trans ?_ (Below.mono (by assumption) ?_)) | (simp; done) | (simp; omega) | omega | with_reducible apply le_size_alloc | with_reducible apply le_size_drewN | with_reducible apply le_size_drew | with_reducible apply le_size_setCell | refine Nat.le_trans ?_ (Below.size (by assumption))))
  clear hb
  replace C1 : Hid (CR mapE x8 A1 c1 l) := C1.out.ext b
  replace C2 : Hid (CR mapE x8 A2 c2 M) := C2.out.ext b
  replace KB : Hid (Blk x8 x3.heap.size 24 #[.int .i64 4, .int .i64 q]) := Blk.below_ KB.out b KB.out.lt
  replace C3 : Hid (CR mapE x8 A3 c3 l) := C3.out.ext b
  replace C4 : Hid (CR mapE x8 A4 c4 M) := C4.out.ext b
  replace B : Hid (Below w.heap.size w x8) := B.out.trans (b.mono B.out.size)
  clear p0 p1 zB
  clear b
  have p0 : x8.cell? ⟨x3.heap.size, 0, none⟩ = some (.int .i64 4) := by simpa using KB.out.cell_ 0
  have p1 : x8.cell? ⟨x3.heap.size, 1, none⟩ = some (.int .i64 q) := by simpa using KB.out.cell_ 1
  have zB : x3.heap.size < x8.heap.size := KB.out.lt
  go_wp2_with fail
  refine (SameMaps_any A4 A2 c4 c2 M M _ C4.out.1 C2.out.1 HF.out.ml HF.out.ml).mono ?_
  rw [decide_eq_true rfl]
  rintro e x9 ⟨rfl, hb⟩
  have b : Below x8.heap.size x8 x9 := (by repeat' (first | with_reducible exact Below.refl _ _ | with_reducible assumption | with_reducible apply Below.drew | with_reducible apply below_drewN | with_reducible apply Below.alloc | with_reducible apply Below.setCell | (with_reducible refine Below.trans ?_ (Below.mono (by assumption) ?_)) | (simp; done) | (simp; omega) | omega | with_reducible apply le_size_alloc | with_reducible apply le_size_drewN | with_reducible apply le_size_drew | with_reducible apply le_size_setCell | refine Nat.le_trans ?_ (Below.size (by assumption))))
  clear hb
  replace C1 : Hid (CR mapE x9 A1 c1 l) := C1.out.ext b
  replace C2 : Hid (CR mapE x9 A2 c2 M) := C2.out.ext b
  replace KB : Hid (Blk x9 x3.heap.size 24 #[.int .i64 4, .int .i64 q]) := Blk.below_ KB.out b KB.out.lt
  replace C3 : Hid (CR mapE x9 A3 c3 l) := C3.out.ext b
  replace C4 : Hid (CR mapE x9 A4 c4 M) := C4.out.ext b
  replace B : Hid (Below w.heap.size w x9) := B.out.trans (b.mono B.out.size)
  clear p0 p1 zB
  clear b
  have p0 : x9.cell? ⟨x3.heap.size, 0, none⟩ = some (.int .i64 4) := by simpa using KB.out.cell_ 0
  have p1 : x9.cell? ⟨x3.heap.size, 1, none⟩ = some (.int .i64 q) := by simpa using KB.out.cell_ 1
  have zB : x3.heap.size < x9.heap.size := KB.out.lt
  go_wp2_with fail
  go_ret
  exact ⟨rfl, B.out⟩


set_option maxRecDepth 100000 in
theorem rmapAdds_lifted (os : Os) (started : os.Started) (H : Type) (enc : TypeId × Value → H) :
    ReturnsInHanded {} Try.checked os 7 .any (Rows.rmapAddsSpec.pre6 enc Try.prog Try.f7 Rows.rmapAddsRow.domain false) (Rows.rmapAddsSpec.post enc Try.prog Try.f7 false true false false) := by
  refine returnsInHanded_of_change (C := Try.checked) own started (by kernel_rfl) Try.func7
    (ChangeSpec.witness6 (enc := enc) (C := Try.checked) false ⟨#[], #[.slice none 0 0, .int .i64 0], []⟩ 8 (by kernel_rfl) (by kernel_rfl) (by kernel_rfl) (by kernel_rfl)) ?_
  intro W base args ds gs before hval0 hW hcnd _
  have hval : ∀ (j : Nat) t v, Try.f7.params[j]? = some t → args[j]? = some v → Value.okWide Try.prog W .any base t v := hval0
  have hW' := hW
  obtain ⟨p, q, hA0, hV, rfl, hfz, hnd⟩ := hW
  have hA : DataW.TrodAll enc Try.prog W 0 (fun _ => true) true Try.f7.params.toList args.toList ds p := hA0
  rw [Try.params7] at hA hval
  obtain ⟨v0, vs0, d0, ds0, p0, q0, hargs, rfl, rfl, h0, r0⟩ := trodAll_cons hA
  obtain ⟨v1, vs1, d1, ds1, p1, q1, rfl, rfl, rfl, h1, r1⟩ := trodAll_cons r0
  obtain ⟨rfl, rfl, rfl⟩ := trodAll_nil r1
  obtain rfl : args = #[v0, v1] := by cases args; simp_all
  obtain ⟨rfl, rfl⟩ := trodVars_none hV
  obtain ⟨A0, k0, a0, rfl, s0, w0, l0⟩ := open_slI Try.underlying35 Try.underlying3 (by kernel_rfl) (hval 0 35 v0 rfl rfl) h0
  obtain ⟨a1, rfl, rfl, rfl, w1⟩ := open_int Try.underlying3 (hval 1 3 v1 rfl rfl) h1
  clear hA0 hval0
  refine (rmapAdds_walk A0 k0 a0 a1 W s0 w0 l0 w1).mono fun e W' ⟨he, hb⟩ => ⟨_, he, ?_⟩
  exact law_post laidOut (s := Rows.rmapAddsSpec) (B := 4) rfl rfl Try.underlying4 (by decide +kernel) hW' rfl hb

theorem rmapAdds_holds : Rows.RmapAddsSaid :=
  OpenClaim.holds_of_wide 7 Try.f7 rfl rfl rfl rfl rfl rfl rfl ⟨rfl, rfl, rfl, rfl, rfl⟩ rfl rfl rfl rfl rfl (by kernel_rfl) Try.func7 (by kernel_rfl)
    (of_decide_eq_true (by kernel_rfl)) (by unfold Func.isWrapper; first | (rw [if_pos (by decide +kernel)]; kernel_rfl) | (rw [if_neg (by decide +kernel)]; exact ⟨rfl, rfl⟩))
    (fun os started H enc _ => rmapAdds_lifted os started H enc)

end Go.Proofs.Ytbeddhamnefpiaa
