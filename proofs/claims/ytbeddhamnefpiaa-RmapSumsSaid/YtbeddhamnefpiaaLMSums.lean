/- RmapSums. Written by gen_ladds.py. -/
import Derived.Test.YtbeddhamnefpiaaRL4
namespace Go.Proofs.Ytbeddhamnefpiaa
set_option linter.unusedSimpArgs false
set_option linter.unusedVariables false
open Go.RowKit Go.Maps
open Go.ChangeShapes Go.WideShapes Go.ChangeAt Go.Joins Go.Deep


def sumC (l : List M3) : Nat → Int
  | 0 => 0
  | k + 1 => sumC l k + cntM l k
theorem sumC_cons (x : M3) (l : List M3) : ∀ k, sumC (x :: l) k = sumC l k + if 0 ≤ x.1 ∧ x.1 < k then 1 else 0
  | 0 => by simp only [sumC]; rw [if_neg (by omega)]; rfl
  | k + 1 => by
    have hc : cntM (x :: l) k = cntM l k + if x.1 = k then 1 else 0 := by
      unfold cntM
      by_cases h : x.1 = k
      · rw [List.filter_cons_of_pos (by simpa using h), if_pos h]; simp
      · rw [List.filter_cons_of_neg (by simpa using h), if_neg h]; simp
    simp only [sumC]
    rw [sumC_cons x l k, hc]
    by_cases h1 : x.1 = k
    · rw [if_pos h1, if_neg (by omega), if_pos (by omega)]; omega
    · rw [if_neg h1]
      by_cases h2 : 0 ≤ x.1 ∧ x.1 < k
      · rw [if_pos h2, if_pos (by omega)]; omega
      · rw [if_neg h2, if_neg (by omega)]; omega
theorem sumC_all : ∀ (l : List M3), (∀ m ∈ l, 0 ≤ m.1 ∧ m.1 < 256) → sumC l 256 = l.length
  | [], _ => by
    have : ∀ k, sumC [] k = 0 := fun k => by
      induction k with
      | zero => rfl
      | succ k ih => simp only [sumC]; rw [ih]; simp [cntM]
    rw [this]; rfl
  | x :: l, h => by
    rw [sumC_cons, sumC_all l (fun m hm => h m (List.mem_cons_of_mem _ hm)), if_pos (by simpa using h x (List.mem_cons_self ..))]
    simp
theorem sumC_le (l : List M3) : ∀ k, 0 ≤ sumC l k ∧ sumC l k ≤ k * 1000 ∨ 1000 < l.length
  | 0 => .inl (by simp [sumC])
  | k + 1 => by
    rcases sumC_le l k with h | h
    · have := cntM_le l k
      by_cases hl : 1000 < l.length
      · exact .inr hl
      · exact .inl (by simp only [sumC]; omega)
    · exact .inr h
theorem plsM_cnt (l : List M3) (f : Int) : ((plsM l f).length : Int) = cntM l f := by unfold plsM cntM; rw [List.length_map]
theorem fndM_pls {l : List M3} (ok : OkL l) {f : Int} {p : Int × Int} (h : p ∈ plsM l f) : fndM l p = (f, 0) := by
  have hm := mem_plsM.1 h
  have hok := ok.ok _ hm
  have hp : okP p = true := by unfold okM at hok; rw [Bool.and_eq_true] at hok; exact hok.2
  unfold fndM
  rw [ok.chk, if_neg (by simp), if_pos hp, findM_of ok hm]
theorem ofM_ok {l : List M3} (ok : OkL l) {k : Nat} (h : k < 256) : ofM l k = (plsM l k, 0) := by
  unfold ofM
  rw [ok.chk, if_neg (by simp), if_pos (by unfold okF; simp; omega)]
theorem cnsM_at2 {l : List M3} (ok : OkL l) {k : Nat} (h : k < 256) : (cnsM l).1[k]? = some (cntM l k) := by
  unfold cnsM
  rw [ok.chk, if_neg (by simp)]
  rw [List.getElem?_map, List.getElem?_range h]; rfl
theorem cnsM_ok {l : List M3} (ok : OkL l) : (cnsM l).2 = 0 ∧ (cnsM l).1.length = 256 := by
  unfold cnsM
  rw [ok.chk, if_neg (by simp)]
  simp

set_option maxRecDepth 100000 in
set_option maxHeartbeats 4000000 in
theorem rmapSums_walk (A : Option Addr) (c : Nat) (nums : List Int) (w : World) (hs : Sl w (.int .i64) A nums) (_hw : ∀ x ∈ nums, (Lit.int .i64 x).wf = true) (hl0 : nums.length ≤ maxLen) :
    Calls Try.prog 8 #[.slice A nums.length c] w fun e w' => e = .returned (.bool true) ∧ Below w.heap.size w w' := by
  have hl : nums.length ≤ 9223372036854775807 := by unfold maxLen at hl0; exact hl0
  have HS : Hid (Sl w (.int .i64) A nums) := hs
  clear hs
  have B : Hid (Below w.heap.size w w) := Below.refl _ _
  go_enter Try.func8, Try.ntmps8
  go_wp2_with fail
  refine (known_any _).mono ?_
  rintro e x1 ⟨rfl, hb⟩
  have b : Below w.heap.size w x1 := (by repeat' (first | with_reducible exact Below.refl _ _ | with_reducible assumption | with_reducible apply Below.drew | with_reducible apply below_drewN | with_reducible apply Below.alloc | with_reducible apply Below.setCell | (with_reducible refine Below.trans ?_ (Below.mono (by assumption) ?_)) | (simp; done) | (simp; omega) | omega | with_reducible apply le_size_alloc | with_reducible apply le_size_drewN | with_reducible apply le_size_drew | with_reducible apply le_size_setCell | refine Nat.le_trans ?_ (Below.size (by assumption))))
  clear hb
  replace HS : Hid (Sl x1 (.int .i64) A nums) := HS.out.ext b
  replace B : Hid (Below w.heap.size w x1) := B.out.trans (b.mono B.out.size)
  clear b
  go_wp2_with fail
  refine (made_any A c nums _ HS.out hl).mono ?_
  rintro e x2 ⟨l, A1, c1, rfl, ml, hc1, hb⟩
  have b : Below x1.heap.size x1 x2 := (by repeat' (first | with_reducible exact Below.refl _ _ | with_reducible assumption | with_reducible apply Below.drew | with_reducible apply below_drewN | with_reducible apply Below.alloc | with_reducible apply Below.setCell | (with_reducible refine Below.trans ?_ (Below.mono (by assumption) ?_)) | (simp; done) | (simp; omega) | omega | with_reducible apply le_size_alloc | with_reducible apply le_size_drewN | with_reducible apply le_size_drew | with_reducible apply le_size_setCell | refine Nat.le_trans ?_ (Below.size (by assumption))))
  clear hb
  replace HS : Hid (Sl x2 (.int .i64) A nums) := HS.out.ext b
  replace B : Hid (Below w.heap.size w x2) := B.out.trans (b.mono B.out.size)
  have C1 : Hid (CR mapE x2 A1 c1 l) := hc1
  clear hc1
  clear b
  clear HS
  have ok := ml.ok
  have LL : Hid (l.length ≤ 1000) := by show _ ≤ _; have := ml.len; omega
  have ll := LL.out
  obtain ⟨⟨Lc, zc⟩, hc⟩ : ∃ r, cnsM l = r := ⟨_, rfl⟩
  have g0 := cnsM_ok ok
  have G : Hid (∀ k : Nat, k < 256 → Lc[k]? = some (cntM l k)) := by
    show ∀ _, _
    intro k hk
    have := cnsM_at2 ok hk
    rwa [hc] at this
  rw [hc] at g0
  obtain ⟨rfl, hLc⟩ := g0
  dsimp only at hLc
  have HC := Lib.hid hc
  have HSUM : Hid (sumC l 256 = l.length) := sumC_all l (fun m hm => ((okM_iff m).1 (ok.ok m hm)).1)
  have OK := Lib.hid ok
  have HLC := Lib.hid hLc
  clear hc ok ml
  go_wp2_with fail
  refine (Counts_any A1 c1 l _ C1.out.1 LL.out).mono ?_
  unfold CnsPost
  rw [HC.out]
  rintro e x3 ⟨A5, c5, rfl, hc5, hb⟩
  have b : Below x2.heap.size x2 x3 := (by repeat' (first | with_reducible exact Below.refl _ _ | with_reducible assumption | with_reducible apply Below.drew | with_reducible apply below_drewN | with_reducible apply Below.alloc | with_reducible apply Below.setCell | (with_reducible refine Below.trans ?_ (Below.mono (by assumption) ?_)) | (simp; done) | (simp; omega) | omega | with_reducible apply le_size_alloc | with_reducible apply le_size_drewN | with_reducible apply le_size_drew | with_reducible apply le_size_setCell | refine Nat.le_trans ?_ (Below.size (by assumption))))
  clear hb
  replace C1 : Hid (CR mapE x3 A1 c1 l) := C1.out.ext b
  replace B : Hid (Below w.heap.size w x3) := B.out.trans (b.mono B.out.size)
  have C5 : Hid (Sl x3 (.int .i64) A5 Lc) := hc5
  clear hc5
  clear b
  go_wp2_with fail
  go_loopw [8, 9] (fun s i wr => ∃ (k : Nat) (z : Int), k ≤ 256 ∧ i = .int .i64 k ∧ s = .int .i64 z ∧ Hid (sumC l k = z) ∧ Below x3.heap.size x3 wr) (fun _ i _ => 256 - (intOf i).toNat)
  case atStart => exact ⟨0, 0, by omega, rfl, rfl, rfl, Below.refl _ _⟩
  case round =>
    obtain ⟨k, z, hk, rfl, rfl, HZ, hbw⟩ := hrel
    by_cases hk' : k < 256
    · have i1 : (k : Int) < 256 := by omega
      have zw := hbw.size
      obtain ⟨b5, off5, x5, rfl, hb5, hx5, q5⟩ := (C5.out.ext hbw).at_ (k := k) (by rw [HLC.out]; exact hk')
      rw [G.out k hk'] at hx5
      injection hx5 with hx5
      obtain ⟨K, hK⟩ : ∃ K, cntM l k = K := ⟨_, rfl⟩
      rw [hK] at hx5
      subst hx5
      obtain ⟨Lp, hLp⟩ : ∃ Lp, plsM l k = Lp := ⟨_, rfl⟩
      have hpl : (Lp.length : Int) = K := by rw [← hLp, plsM_cnt, hK]
      have hpl2 : Lp.length ≤ 1000 := by rw [← hLp]; exact Nat.le_trans (plsM_len l k) ll
      have HO : Hid (ofM l k = (Lp, 0)) := by show _ = _; rw [ofM_ok OK.out hk', hLp]
      have HP : Hid (∀ p ∈ Lp, fndM l p = ((k : Int), 0)) := by
        show ∀ _, _
        intro p hp
        rw [← hLp] at hp
        exact fndM_pls OK.out hp
      have HN : Hid (sumC l (k + 1) = z + K) := by show _ = _; simp only [sumC]; rw [HZ.out, hK]
      have hzb : 0 ≤ z ∧ z ≤ 256000 := by
        rcases sumC_le l k with h | h
        · rw [HZ.out] at h; omega
        · omega
      have hKb : 0 ≤ K ∧ K ≤ 1000 := by omega
      have hwr : IntKind.i64.wrap (z + K) = z + K := IntWalk.i64_in _ (by omega)
      have hpb : ((Lp.length : Int) != K) = false := by simpa using hpl
      have HPL := Lib.hid hpl
      clear hLp hpl hK
      go_wp2_with (go_at_call 16; refine (Of_any A1 c1 l k wr (C1.out.1.ext hbw) ll).mono ?_; unfold OfPost; rw [HO.out]; rintro e w6 ⟨A6, c6, rfl, hc6, hb6⟩; have q6 := cell_keep hb6 q5 hb5; have hb56 := Nat.lt_of_lt_of_le hb5 hb6.size)
      have H6 := Lib.hid hc6
      have B6 : Below x3.heap.size x3 w6 := hbw.trans (hb6.mono zw)
      clear hc6 hb6 hbw q5 hb5
      go_loopw [12] (fun i wq => ∃ j : Nat, j ≤ Lp.length ∧ i = .int .i64 j ∧ Below w6.heap.size w6 wq) (fun i _ => Lp.length - (intOf i).toNat)
      case atStart => exact ⟨0, by omega, rfl, Below.refl _ _⟩
      case round =>
        obtain ⟨j, hj, rfl, hbq⟩ := hrel
        have B7 := B6.trans (hbq.mono B6.size)
        by_cases hj' : j < Lp.length
        · obtain ⟨b7, off7, p, rfl, hb7, hp, p0, p1⟩ := pl_at (H6.out.1.ext hbq) hj'
          have j1 : (j : Int) < Lp.length := by omega
          have HF := Lib.hid (HP.out p (List.mem_of_getElem? hp))
          have C1r : Hid (SR mapE wr A1 l) := C1.out.1.ext B7
          clear hp
          go_wp2_with (go_at_call 14; refine (Find_any A1 c1 l p.1 p.2 _ C1r.out ll HF.out).mono ?_; rintro e w8 ⟨rfl, hb8⟩)
          go_roundw
          case rel => exact ⟨j + 1, by omega, by go_num, hbq.trans (hb8.mono hbq.size)⟩
          case measure => simp [intOf]; omega
        · have j1 : ¬ ((j : Int) < Lp.length) := by omega
          have q7 := cell_keep hbq q6 hb56
          have hb57 := Nat.lt_of_lt_of_le hb56 hbq.size
          clear q6 hb56
          go_wp2_with fail
          go_roundw
          case rel => exact ⟨k + 1, z + K, by omega, by go_num, by first | rfl | (rw [hwr]), HN.out, B7⟩
          case measure => simp [intOf]; omega
    · have i1 : ¬ ((k : Int) < 256) := by omega
      obtain rfl : k = 256 := by omega
      have hz : z = l.length := by rw [← HZ.out]; exact HSUM.out
      subst hz
      go_wp2
      go_ret
      exact ⟨rfl, B.out.trans (hbw.mono B.out.size)⟩


set_option maxRecDepth 100000 in
theorem rmapSums_lifted (os : Os) (started : os.Started) (H : Type) (enc : TypeId × Value → H) :
    ReturnsInHanded {} Try.checked os 8 .any (Rows.rmapSumsSpec.pre6 enc Try.prog Try.f8 Rows.rmapSumsRow.domain false) (Rows.rmapSumsSpec.post enc Try.prog Try.f8 false true false false) := by
  refine returnsInHanded_of_change (C := Try.checked) own started (by kernel_rfl) Try.func8
    (ChangeSpec.witness6 (enc := enc) (C := Try.checked) false ⟨#[], #[.slice none 0 0], []⟩ 8 (by kernel_rfl) (by kernel_rfl) (by kernel_rfl) (by kernel_rfl)) ?_
  intro W base args ds gs before hval0 hW hcnd _
  have hval : ∀ (j : Nat) t v, Try.f8.params[j]? = some t → args[j]? = some v → Value.okWide Try.prog W .any base t v := hval0
  have hW' := hW
  obtain ⟨p, q, hA0, hV, rfl, hfz, hnd⟩ := hW
  have hA : DataW.TrodAll enc Try.prog W 0 (fun _ => true) true Try.f8.params.toList args.toList ds p := hA0
  rw [Try.params8] at hA hval
  obtain ⟨v0, vs0, d0, ds0, p0, q0, hargs, rfl, rfl, h0, r0⟩ := trodAll_cons hA
  obtain ⟨rfl, rfl, rfl⟩ := trodAll_nil r0
  obtain rfl : args = #[v0] := by cases args; simp_all
  obtain ⟨rfl, rfl⟩ := trodVars_none hV
  obtain ⟨A0, k0, a0, rfl, s0, w0, l0⟩ := open_slI Try.underlying35 Try.underlying3 (by kernel_rfl) (hval 0 35 v0 rfl rfl) h0
  clear hA0 hval0
  refine (rmapSums_walk A0 k0 a0 W s0 w0 l0).mono fun e W' ⟨he, hb⟩ => ⟨_, he, ?_⟩
  exact law_post laidOut (s := Rows.rmapSumsSpec) (B := 4) rfl rfl Try.underlying4 (by decide +kernel) hW' rfl hb

theorem rmapSums_holds : Rows.RmapSumsSaid :=
  OpenClaim.holds_of_wide 8 Try.f8 rfl rfl rfl rfl rfl rfl rfl ⟨rfl, rfl, rfl, rfl, rfl⟩ rfl rfl rfl rfl rfl (by kernel_rfl) Try.func8 (by kernel_rfl)
    (of_decide_eq_true (by kernel_rfl)) (by unfold Func.isWrapper; first | (rw [if_pos (by decide +kernel)]; kernel_rfl) | (rw [if_neg (by decide +kernel)]; exact ⟨rfl, rfl⟩))
    (fun os started H enc _ => rmapSums_lifted os started H enc)

end Go.Proofs.Ytbeddhamnefpiaa
