/- LruUndo: the statement holds for every list of numbers and every number. -/
import Derived.Test.YtjilfijpepbfeaaLruM
import Derived.Test.YtjilfijpepbfeaaClose
namespace Go.Proofs.Ytjilfijpepbfeaa
open Go.RowKit Go.Maps
open Go.ChangeShapes Go.WideShapes Go.ChangeAt Go.Joins

theorem Md.wf {k : Nat} {xs ys : List Int} {rs : List Bool} (h : Md k xs ys rs) : (∀ x ∈ xs, (Lit.int .i64 x).wf = true) ∧ (∀ x ∈ ys, (Lit.int .i64 x).wf = true) := by
  have hh : ∀ x ∈ xs ++ ys, (Lit.int .i64 x).wf = true := fun x hx => by
    obtain ⟨j, _, rfl⟩ := h.from_ x hx
    have := fr_bd j
    exact WalkArith.wf_i64 (by omega)
  exact ⟨fun x hx => hh x (by simp [hx]), fun x hx => hh x (by simp [hx])⟩
theorem chk_of {xs ys : List Int} {rs : List Bool} (h1 : 1 ≤ rs.length) (h2 : rs.length ≤ 256) (hr : ∀ x ∈ xs ++ ys, 0 ≤ x ∧ x < rs.length) (hn : (xs ++ ys).Nodup) (hb : ∀ k : Nat, rs[k]? = some true → (k : Int) ∈ xs ++ ys) : lruChk xs ys rs = 0 :=
  lruChk_ok (by omega) (lruScan_none _ _ _ hr hn (fun _ _ => by simp)) hb
theorem chd_of {xs ys : List Int} {rs : List Bool} {f : Int} (h : lruChk xs ys rs = 0) (h0 : 0 ≤ f) (h1 : f < rs.length) : lruChd xs ys rs f = 0 := by
  unfold lruChd; rw [h, if_neg (by simp), if_pos ⟨h0, h1⟩]
theorem fWhere_zero {xs ys : List Int} {f : Int} (h : fWhere xs ys f = 0) : f ∉ xs ∧ f ∉ ys := by
  unfold fWhere at h
  constructor
  · intro hm; rw [if_pos hm] at h; cases h
  · intro hm
    by_cases h1 : f ∈ xs
    · rw [if_pos h1] at h; cases h
    · rw [if_neg h1, if_pos hm] at h; cases h
theorem set_same {rs : List Bool} {m : Nat} (h : rs[m]? ≠ some true) : rs.set m false = rs := by
  apply List.ext_getElem?
  intro j
  rw [List.getElem?_set]
  by_cases e : m = j
  · subst e
    rw [if_pos rfl]
    cases hx : rs[m]? with
    | none => rw [List.getElem?_eq_none_iff] at hx; rw [if_neg (by omega)]
    | some b =>
      have := (List.getElem?_eq_some_iff.1 hx).1
      rw [if_pos this]
      cases b
      · rfl
      · exact absurd hx h
  · rw [if_neg e]

set_option maxRecDepth 100000 in
set_option maxHeartbeats 2000000 in
theorem lruUndo_walk (A : Option Addr) (c : Nat) (nums : List Int) (n : Int) (w : World) (hs : Sl w (.int .i64) A nums) (_hw : ∀ x ∈ nums, (Lit.int .i64 x).wf = true) (hl0 : nums.length ≤ maxLen) (_hn : (Lit.int .i64 n).wf = true) :
    Calls Try.prog 4 #[.slice A nums.length c, .int .i64 n] w fun e w' => e = .returned (.bool true) ∧ Below w.heap.size w w' := by
  have hl : nums.length ≤ 9223372036854775807 := by unfold maxLen at hl0; exact hl0
  obtain ⟨f, hf⟩ : ∃ f, f = n % 16 := ⟨_, rfl⟩
  have f0 : 0 ≤ f := by omega
  have f1 : f < 16 := by omega
  have HF := Lib.hid hf; have HS := Lib.hid hs
  clear hf hs
  go_enter Try.func4, Try.ntmps4
  go_wp2_with fail
  refine (made_any _ _ _ _ HS.out hl).mono ?_
  rintro e w1 ⟨A1, c1, A2, c2, A3, c3, xs, ys, rs, rfl, o1, hmd, h1⟩
  go_wp2_with fail
  refine (Mod_any _ _ _ (by omega) (by omega)).mono ?_
  rw [← HF.out]
  rintro e w' ⟨rfl, rfl⟩
  have hchk := hmd.chk
  have hlen := hmd.len
  have hsz := hmd.size
  obtain ⟨hwx, hwy⟩ := hmd.wf
  have m1 := o1.mem (by omega) (by omega) (by omega) hwx hwy
  have hchd : lruChd xs ys rs f = 0 := chd_of hchk f0 (by omega)
  have HMD := Lib.hid hmd; have HCK := Lib.hid hchk; have HCD := Lib.hid hchd; have HWX := Lib.hid hwx; have HWY := Lib.hid hwy; have HM1 := Lib.hid m1
  have hl1 : 16 ≤ rs.length := by omega
  have hl2 : rs.length ≤ 16 := by omega
  clear hmd hchk hchd hwx hwy m1 hlen o1
  go_wp2_with fail
  have hb1 : Below w1.heap.size w1 (w1.alloc (.cells #[.slice A1 xs.length c1, .slice A2 ys.length c2, .slice A3 rs.length c3] 25)) := (by repeat' (first | with_reducible exact Below.refl _ _ | with_reducible assumption | with_reducible apply Below.drew | with_reducible apply below_drewN | with_reducible apply Below.alloc | with_reducible apply Below.setCell | (with_reducible refine Below.trans ?_ (Below.mono (by assumption) ?_)) | (simp; done) | (simp; omega) | omega | with_reducible apply le_size_alloc | with_reducible apply le_size_drewN | with_reducible apply le_size_drew | with_reducible apply le_size_setCell | refine Nat.le_trans ?_ (Below.size (by assumption))))
  refine (Where_any _ _ _ _ _ _ _ _ _ _ _ (HM1.out.ext hb1)).mono ?_
  rw [whereR, HCD.out, if_neg (by simp)]
  rintro e w2 ⟨rfl, h2⟩
  have p0 : w2.cell? ⟨w1.heap.size, 0, none⟩ = some (.slice A1 xs.length c1) := cell_keep h2 (by simp) (by simp)
  have p1 : w2.cell? ⟨w1.heap.size, 1, none⟩ = some (.slice A2 ys.length c2) := cell_keep h2 (by simp) (by simp)
  have p2 : w2.cell? ⟨w1.heap.size, 2, none⟩ = some (.slice A3 rs.length c3) := cell_keep h2 (by simp) (by simp)
  have z2 : w1.heap.size < w2.heap.size := by have := h2.size; simp at this; omega
  have M2 := Lib.hid ((HM1.out.ext hb1).ext h2)
  obtain ⟨wh, hwh⟩ : ∃ wh, fWhere xs ys f = wh := ⟨_, rfl⟩
  rw [hwh]
  by_cases h0 : wh = 0
  · subst h0
    have HWH := Lib.hid hwh
    clear hwh
    go_wp2_with fail
    refine (Add_ok _ _ _ _ _ _ _ _ _ _ _ M2.out HCD.out HWH.out).mono ?_
    rintro e w3 ⟨B1, d1, B2, d2, B3, d3, rfl, o3, h3⟩
    obtain ⟨nx, ny⟩ := fWhere_zero HWH.out
    have hv := HMD.out
    have hchk3 : lruChk (f :: xs) ys rs = 0 := by
      have hval := valid_of_chk HCK.out
      refine chk_of hval.lo hval.hi (fun x hx => ?_) (List.nodup_cons.2 ⟨by simp [nx, ny], hval.nodup⟩) (fun k hk => List.mem_cons_of_mem _ (hval.refs k hk))
      rcases List.mem_cons.1 hx with rfl | hx
      · omega
      · exact hval.range x hx
    have hset : rs.set f.toNat false = rs := set_same (fun hk => by
      have := (valid_of_chk HCK.out).refs _ hk
      rw [show ((f.toNat : Nat) : Int) = f by omega] at this
      rcases List.mem_append.1 this with h | h
      · exact nx h
      · exact ny h)
    have m3 := o3.mem (by simp; omega) (by omega) (by omega) (fun x hx => by
      rcases List.mem_cons.1 hx with rfl | hx
      · exact WalkArith.wf_i64 (by omega)
      · exact HWX.out x hx) HWY.out
    have hix : ixOf (f :: xs) f = 0 := by simp [ixOf]
    have M3 := Lib.hid m3; have HC3 := Lib.hid hchk3; have HSET := Lib.hid hset; have HIX := Lib.hid hix
    have p3 : w3.cell? ⟨w1.heap.size, 0, none⟩ = some (.slice A1 xs.length c1) := cell_keep h3 p0 z2
    have p4 : w3.cell? ⟨w1.heap.size, 1, none⟩ = some (.slice A2 ys.length c2) := cell_keep h3 p1 z2
    have p5 : w3.cell? ⟨w1.heap.size, 2, none⟩ = some (.slice A3 rs.length c3) := cell_keep h3 p2 z2
    clear m3 hchk3 hset hix nx ny hv o3 p0 p1 p2
    have z3 : w2.heap.size ≤ w3.heap.size := h3.size
    go_wp2_with fail
    refine (Remove_ok1 B1 B2 B3 d1 d2 d3 (f :: xs) ys rs f _ (M3.out.ext (by repeat' (first | with_reducible exact Below.refl _ _ | with_reducible assumption | with_reducible apply Below.drew | with_reducible apply below_drewN | with_reducible apply Below.alloc | with_reducible apply Below.setCell | (with_reducible refine Below.trans ?_ (Below.mono (by assumption) ?_)) | (simp; done) | (simp; omega) | omega | with_reducible apply le_size_alloc | with_reducible apply le_size_drewN | with_reducible apply le_size_drew | with_reducible apply le_size_setCell | refine Nat.le_trans ?_ (Below.size (by assumption))))) (chd_of HC3.out f0 (by omega)) (if_pos (by simp)) (if_pos (by simp)) (by simp)).mono ?_
    unfold ListsPost
    rw [HIX.out, HSET.out, show ((f :: xs).eraseIdx (0 : Int).toNat) = xs from rfl]
    rintro e w4 ⟨D1, f1', D2, f2', D3, f3', rfl, o4, h4⟩
    have m4 := o4.mem (by omega) (by omega) (by omega) HWX.out HWY.out
    have M4 := Lib.hid m4
    clear m4 o4
    have e3 : ∀ k, (w3.alloc (.cells #[.slice B1 (f :: xs).length d1, .slice B2 ys.length d2, .slice B3 rs.length d3] 25)).cell? ⟨w1.heap.size, k, none⟩ = w3.cell? ⟨w1.heap.size, k, none⟩ := fun k => World.cell?_alloc_lt _ _ _ (by show w1.heap.size < _; omega)
    have p6 : w4.cell? ⟨w1.heap.size, 0, none⟩ = some (.slice A1 xs.length c1) := cell_keep h4 ((e3 0).trans p3) (by show w1.heap.size < _; simp; omega)
    have p7 : w4.cell? ⟨w1.heap.size, 1, none⟩ = some (.slice A2 ys.length c2) := cell_keep h4 ((e3 1).trans p4) (by show w1.heap.size < _; simp; omega)
    have p8 : w4.cell? ⟨w1.heap.size, 2, none⟩ = some (.slice A3 rs.length c3) := cell_keep h4 ((e3 2).trans p5) (by show w1.heap.size < _; simp; omega)
    have z4 : w1.heap.size < w4.heap.size := by have := h4.size; simp at this; omega
    have z5 : ¬ w1.heap.size = w4.heap.size := by omega
    have hbl4 : Below w1.heap.size w1 w4 := (by repeat' (first | with_reducible exact Below.refl _ _ | with_reducible assumption | with_reducible apply Below.drew | with_reducible apply below_drewN | with_reducible apply Below.alloc | with_reducible apply Below.setCell | (with_reducible refine Below.trans ?_ (Below.mono (by assumption) ?_)) | (simp; done) | (simp; omega) | omega | with_reducible apply le_size_alloc | with_reducible apply le_size_drewN | with_reducible apply le_size_drew | with_reducible apply le_size_setCell | refine Nat.le_trans ?_ (Below.size (by assumption))))
    clear p3 p4 p5 e3
    go_wp2_with fail
    refine (is_yes _ _ _ _ _ _ _ _ _ _ _ _ _ _ _ _ (M4.out.ext (by repeat' (first | with_reducible exact Below.refl _ _ | with_reducible assumption | with_reducible apply Below.drew | with_reducible apply below_drewN | with_reducible apply Below.alloc | with_reducible apply Below.setCell | (with_reducible refine Below.trans ?_ (Below.mono (by assumption) ?_)) | (simp; done) | (simp; omega) | omega | with_reducible apply le_size_alloc | with_reducible apply le_size_drewN | with_reducible apply le_size_drew | with_reducible apply le_size_setCell | refine Nat.le_trans ?_ (Below.size (by assumption))))) (HM1.out.ext (by repeat' (first | with_reducible exact Below.refl _ _ | with_reducible assumption | with_reducible apply Below.drew | with_reducible apply below_drewN | with_reducible apply Below.alloc | with_reducible apply Below.setCell | (with_reducible refine Below.trans ?_ (Below.mono (by assumption) ?_)) | (simp; done) | (simp; omega) | omega | with_reducible apply le_size_alloc | with_reducible apply le_size_drewN | with_reducible apply le_size_drew | with_reducible apply le_size_setCell | refine Nat.le_trans ?_ (Below.size (by assumption))))) (by omega) (by omega) (by omega)).mono ?_
    rintro e w5 ⟨rfl, h5⟩
    go_wp2_with fail
    refine (awake_any _).mono ?_
    rintro e w6 ⟨rfl, h6⟩
    go_wp2
    go_ret
    exact ⟨by simp, (by repeat' (first | with_reducible exact Below.refl _ _ | with_reducible assumption | with_reducible apply Below.drew | with_reducible apply below_drewN | with_reducible apply Below.alloc | with_reducible apply Below.setCell | (with_reducible refine Below.trans ?_ (Below.mono (by assumption) ?_)) | (simp; done) | (simp; omega) | omega | with_reducible apply le_size_alloc | with_reducible apply le_size_drewN | with_reducible apply le_size_drew | with_reducible apply le_size_setCell | refine Nat.le_trans ?_ (Below.size (by assumption))))⟩
  · have HWH := Lib.hid hwh
    clear hwh
    have hne : (wh != 0) = true := by simpa using h0
    have H0 := Lib.hid h0
    clear h0
    go_wp2_with fail
    refine (Add_no _ _ _ _ _ _ _ _ _ _ _ _ M2.out HCD.out HWH.out H0.out).mono ?_
    rintro e w3 ⟨rfl, h3⟩
    go_wp2_with fail
    refine (awake_any _).mono ?_
    rintro e w4 ⟨rfl, h4⟩
    go_wp2
    go_ret
    exact ⟨by simp, (by repeat' (first | with_reducible exact Below.refl _ _ | with_reducible assumption | with_reducible apply Below.drew | with_reducible apply below_drewN | with_reducible apply Below.alloc | with_reducible apply Below.setCell | (with_reducible refine Below.trans ?_ (Below.mono (by assumption) ?_)) | (simp; done) | (simp; omega) | omega | with_reducible apply le_size_alloc | with_reducible apply le_size_drewN | with_reducible apply le_size_drew | with_reducible apply le_size_setCell | refine Nat.le_trans ?_ (Below.size (by assumption))))⟩

set_option maxRecDepth 100000 in
theorem lruUndo_lifted (os : Os) (started : os.Started) (H : Type) (enc : TypeId × Value → H) :
    ReturnsInHanded {} Try.checked os 4 .any (Rows.lruUndoSpec.pre6 enc Try.prog Try.f4 Rows.lruUndoRow.domain false) (Rows.lruUndoSpec.post enc Try.prog Try.f4 false true false false) := by
  refine returnsInHanded_of_change (C := Try.checked) own started (by kernel_rfl) Try.func4
    (ChangeSpec.witness6 (enc := enc) (C := Try.checked) false ⟨#[], #[.slice none 0 0, .int .i64 0], []⟩ 8 (by kernel_rfl) (by kernel_rfl) (by kernel_rfl) (by kernel_rfl)) ?_
  intro W base args ds gs before hval0 hW hcnd _
  have hval : ∀ (j : Nat) t v, Try.f4.params[j]? = some t → args[j]? = some v → Value.okWide Try.prog W .any base t v := hval0
  have hW' := hW
  obtain ⟨p, q, hA0, hV, rfl, hfz, hnd⟩ := hW
  have hA : DataW.TrodAll enc Try.prog W 0 (fun _ => true) true Try.f4.params.toList args.toList ds p := hA0
  rw [Try.params4] at hA hval
  obtain ⟨v0, vs0, d0, ds0, p0, q0, hargs, rfl, rfl, h0, r0⟩ := trodAll_cons hA
  obtain ⟨v1, vs1, d1, ds1, p1, q1, rfl, rfl, rfl, h1, r1⟩ := trodAll_cons r0
  obtain ⟨rfl, rfl, rfl⟩ := trodAll_nil r1
  obtain rfl : args = #[v0, v1] := by cases args; simp_all
  obtain ⟨rfl, rfl⟩ := trodVars_none hV
  obtain ⟨A0, k0, a0, rfl, s0, w0, l0⟩ := open_slI Try.underlying22 Try.underlying3 (by kernel_rfl) (hval 0 22 v0 rfl rfl) h0
  obtain ⟨a1, rfl, rfl, rfl, w1⟩ := open_int Try.underlying3 (hval 1 3 v1 rfl rfl) h1
  clear hA0 hval0
  refine (lruUndo_walk A0 k0 a0 a1 W s0 w0 l0 w1).mono fun e W' ⟨he, hb⟩ => ⟨_, he, ?_⟩
  exact law_post laidOut (s := Rows.lruUndoSpec) (B := 4) rfl rfl Try.underlying4 (by decide +kernel) hW' rfl hb

theorem lruUndo_holds : Rows.LruUndoSaid :=
  OpenClaim.holds_of_wide 4 Try.f4 rfl rfl rfl rfl rfl rfl rfl ⟨rfl, rfl, rfl, rfl, rfl⟩ rfl rfl rfl rfl rfl (by kernel_rfl) Try.func4 (by kernel_rfl)
    (of_decide_eq_true (by kernel_rfl)) (by unfold Func.isWrapper; first | (rw [if_pos (by decide +kernel)]; kernel_rfl) | (rw [if_neg (by decide +kernel)]; exact ⟨rfl, rfl⟩))
    (fun os started H enc _ => lruUndo_lifted os started H enc)

end Go.Proofs.Ytjilfijpepbfeaa
