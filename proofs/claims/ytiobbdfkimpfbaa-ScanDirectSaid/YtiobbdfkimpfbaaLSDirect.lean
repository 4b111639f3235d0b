/- ScanDirect: direct steps alone find all frames, in the order in which lru says. -/
import Derived.Test.YtiobbdfkimpfbaaLSKnown
import Derived.Test.YtiobbdfkimpfbaaMgF
namespace Go.Proofs.Ytiobbdfkimpfbaa
set_option linter.unusedSimpArgs false
set_option linter.unusedVariables false
open Go.RowKit Go.Maps
open Go.ChangeShapes Go.WideShapes Go.ChangeAt Go.Joins

/-- A variable of lists that lies in block B. -/
structure LV (w : World) (B : Nat) (A1 A2 A3 : Option Addr) (c1 c2 c3 : Nat) (xs ys : List Int) (rs : List Bool) : Prop where
  blk : Blk w B 25 #[.slice A1 xs.length c1, .slice A2 ys.length c2, .slice A3 rs.length c3]
  mem : InMem w A1 A2 A3 xs ys rs
  ne : NeB B A1 A2 A3 xs ys rs
theorem LV.ext {w w' : World} {B : Nat} {A1 A2 A3 : Option Addr} {c1 c2 c3 : Nat} {xs ys : List Int} {rs : List Bool} (h : LV w B A1 A2 A3 c1 c2 c3 xs ys rs) (hb : Below w.heap.size w w') : LV w' B A1 A2 A3 c1 c2 c3 xs ys rs :=
  ⟨h.blk.below_ hb h.blk.lt, h.mem.ext hb, h.ne⟩
/-- Other lists are stored. -/
theorem LV.put {w : World} {B : Nat} {A1 A2 A3 : Option Addr} {c1 c2 c3 : Nat} {xs ys : List Int} {rs : List Bool} (h : LV w B A1 A2 A3 c1 c2 c3 xs ys rs) {E1 E2 E3 : Option Addr} {us vs : List Int} {ss : List Bool} (e1 e2 e3 : Nat)
    (hm : InMem w E1 E2 E3 us vs ss) (hn : NeB B E1 E2 E3 us vs ss) {U : World} (hU : ((w.setCell ⟨B, 0, none⟩ (.slice E1 us.length e1)).setCell ⟨B, 1, none⟩ (.slice E2 vs.length e2)).setCell ⟨B, 2, none⟩ (.slice E3 ss.length e3) = U) : LV U B E1 E2 E3 e1 e2 e3 us vs ss := by
  subst hU
  refine ⟨?_, ((hm.set_ hn _ _).set_ hn _ _).set_ hn _ _, hn⟩
  simpa using ((h.blk.set_ 0 (.slice E1 us.length e1)).set_ 1 (.slice E2 vs.length e2)).set_ 2 (.slice E3 ss.length e3)

/-- One direct step. -/
theorem dir_next {xs ys : List Int} {rs : List Bool} {f : Int} {t : List Int} (hc : lruChk xs ys rs = 0) (h : ys.reverse ++ xs.reverse = f :: t) :
    dirF xs ys rs = f ∧ dirS xs ys rs = ⟨wo f xs, wo f ys, rs.set f.toNat false, 0⟩ ∧ lruChk (wo f xs) (wo f ys) (rs.set f.toNat false) = 0 ∧ (wo f ys).reverse ++ (wo f xs).reverse = t := by
  have hl : lastV xs ys rs = (f, 0) := by unfold lastV; rw [hc, if_neg (by simp), h]
  have hv := valid_of_chk hc
  have hp : (f :: t).Perm (xs ++ ys) := by rw [← h, ← List.reverse_append]; exact List.reverse_perm _
  have hnd := List.nodup_cons.1 (hp.nodup_iff.2 hv.nodup)
  refine ⟨by unfold dirF; rw [hl, if_neg (by simp)], by unfold dirS; rw [hl, if_neg (by simp)], chk_rem hv (hv.range f (hp.mem_iff.1 (by simp))).1, ?_⟩
  have e : wo f (ys.reverse ++ xs.reverse) = wo f (f :: t) := by rw [h]
  unfold wo at e ⊢
  rw [List.filter_append, List.filter_reverse, List.filter_reverse] at e
  rw [e, List.filter_cons_of_neg (by simp)]
  exact wo_self hnd.1
theorem dir_none {xs ys : List Int} {rs : List Bool} (hc : lruChk xs ys rs = 0) (h : ys.reverse ++ xs.reverse = []) : dirF xs ys rs = 0 ∧ dirS xs ys rs = LR.bad 6 := by
  have hl : lastV xs ys rs = (0, 6) := by unfold lastV; rw [hc, if_neg (by simp), h]
  exact ⟨by unfold dirF; rw [hl, if_pos (by simp)], by unfold dirS; rw [hl, if_pos (by simp)]⟩

set_option maxRecDepth 100000 in
set_option maxHeartbeats 4000000 in
theorem scanDirect_walk (A : Option Addr) (c : Nat) (nums : List Int) (w : World) (hs : Sl w (.int .i64) A nums) (_hw : ∀ x ∈ nums, (Lit.int .i64 x).wf = true) (hl0 : nums.length ≤ maxLen) :
    Calls Try.prog 8 #[.slice A nums.length c] w fun e w' => e = .returned (.bool true) ∧ Below w.heap.size w w' := by
  have hl : nums.length ≤ 9223372036854775807 := by unfold maxLen at hl0; exact hl0
  have HS := Lib.hid hs
  clear hs
  go_enter Try.func8, Try.ntmps8
  go_wp2_with fail
  refine (scanKnown_walk _).mono ?_
  rintro e w1 ⟨rfl, h1⟩
  have HS1 := Lib.hid (HS.out.ext h1)
  have HB1 := Lib.hid h1
  clear HS h1
  go_wp2_with fail
  refine (madeZ_any _ _ _ _ HS1.out hl).mono ?_
  rintro e w2 ⟨A1, c1, A2, c2, A3, c3, xs, ys, rs, us0, rfl, o2, hmz, h2⟩
  have hck := hmz.chk
  have hsz := hmz.size
  have hm2 := o2.memV hck
  have HB2 := Lib.hid (HB1.out.trans (h2.mono HB1.out.size))
  clear HB1 HS1 h2 o2
  go_wp2_with fail
  obtain ⟨V, hV⟩ : ∃ V, w2.alloc (.cells #[.slice A1 xs.length c1, .slice A2 ys.length c2, .slice A3 rs.length c3] 25) = V := ⟨_, rfl⟩
  have hbV : Below w2.heap.size w2 V := by rw [← hV]; exact (Below.refl _ _).alloc (Nat.le_refl _) _
  have hvV : LV V w2.heap.size A1 A2 A3 c1 c2 c3 xs ys rs := ⟨by rw [← hV]; exact Blk.new_ rfl rfl, hm2.ext hbV, hm2.neZ fun k e => by omega⟩
  have szV : V.heap.size = w2.heap.size + 1 := by rw [← hV]; simp
  (try rw [hV])
  obtain ⟨os, hos⟩ : ∃ os, ys.reverse ++ xs.reverse = os := ⟨_, rfl⟩
  have hol : os.length ≤ 20 := by rw [← hos]; simp; omega
  have HOL := Lib.hid hos
  clear hV hos
  refine (Order_ok _ _ _ _ _ _ _ _ _ V hvV.mem hck).mono ?_
  rw [HOL.out]
  rintro e w3 ⟨O, d, rfl, oo, h3⟩
  have hO : ∀ g, O.map (·.block) = some g → w2.heap.size + 1 ≤ g := fun g e => by have := (oo.block g e).1; omega
  have HSO := Lib.hid oo.sl_
  have HV3 := Lib.hid (hvV.ext h3)
  have HB3 := Lib.hid (HB2.out.trans ((hbV.trans (h3.mono hbV.size)).mono HB2.out.size))
  have HCK := Lib.hid hck
  have z3 := HV3.out.blk.lt
  have zB := HB2.out.size
  clear hmz hm2 hbV hvV szV oo h3 HB2 hck
  go_wp2_with fail
  go_loopw [7] (fun i wr => ∃ k : Nat, k ≤ os.length ∧ i = .int .i64 k ∧ ∃ A1 A2 A3 c1 c2 c3 xs ys rs, LV wr w2.heap.size A1 A2 A3 c1 c2 c3 xs ys rs ∧ Below w.heap.size w wr ∧ Sl wr (.int .i64) O os ∧ Hid (lruChk xs ys rs = 0) ∧ Hid (ys.reverse ++ xs.reverse = os.drop k)) (fun i _ => os.length - (intOf i).toNat)
  case atStart => exact ⟨0, by omega, rfl, A1, A2, A3, c1, c2, c3, xs, ys, rs, HV3.out, HB3.out, HSO.out, HCK, HOL⟩
  case round =>
    clear HV3 HB3 HSO HCK HOL
    obtain ⟨k, hk, rfl, A1, A2, A3, c1, c2, c3, xs, ys, rs, hv, hb, hso, HCK, HRE⟩ := hrel
    have HV := Lib.hid hv; have HB := Lib.hid hb; have HSO := Lib.hid hso
    have p0 : wr.cell? ⟨w2.heap.size, 0, none⟩ = some (.slice A1 xs.length c1) := (hv.blk.cell_ 0).trans (by simp)
    have p1 : wr.cell? ⟨w2.heap.size, 1, none⟩ = some (.slice A2 ys.length c2) := (hv.blk.cell_ 1).trans (by simp)
    have p2 : wr.cell? ⟨w2.heap.size, 2, none⟩ = some (.slice A3 rs.length c3) := (hv.blk.cell_ 2).trans (by simp)
    have zr := hv.blk.lt
    clear hv hb hso
    by_cases hlt : k < os.length
    · obtain ⟨b, off, x, hOe, hbl, hx, hc⟩ := HSO.out.at_ hlt
      have hbO : w2.heap.size + 1 ≤ b := hO b (by rw [hOe]; rfl)
      have hdk : os.drop k = x :: os.drop (k + 1) := by rw [List.drop_eq_getElem_cons hlt]; congr 1; exact (List.getElem?_eq_some_iff.1 hx).2
      obtain ⟨n1, n2, n3, n4⟩ := dir_next HCK.out (HRE.out.trans hdk)
      obtain ⟨us, hus⟩ : ∃ l, wo x xs = l := ⟨_, rfl⟩
      obtain ⟨vs, hvs⟩ : ∃ l, wo x ys = l := ⟨_, rfl⟩
      obtain ⟨ss, hss⟩ : ∃ l, rs.set x.toNat false = l := ⟨_, rfl⟩
      rw [hus, hvs, hss] at n2 n3
      rw [hus, hvs] at n4
      have N1 := Lib.hid n1; have N2 := Lib.hid n2; have N3 := Lib.hid n3; have N4 := Lib.hid n4
      have i1 : (k : Int) < os.length := by omega
      have i2 : (k : Int) < 40 := by omega
      have hwk : IntKind.i64.wrap (k : Int) = k := by rw [IntKind.wrap_i64]; omega
      clear n1 n2 n3 n4 hus hvs hss hx hdk HRE HCK
      subst hOe
      go_wp2_with fail
      refine (Direct_any A1 A2 A3 c1 c2 c3 xs ys rs _ HV.out.mem).mono ?_
      unfold LPost3
      rw [N2.out, N1.out]
      rintro e x4 ⟨E1, e1, E2, e2, E3, e3, rfl, hm4, hn4, h4⟩
      dsimp only at hm4 hn4 ⊢
      have hc4 : x4.cell? ⟨b, off + k, none⟩ = some (.int .i64 x) := cell_keep h4 hc hbl
      have hs4 := h4.size
      have hb4 : b < x4.heap.size := by omega
      have hb5 : b ≠ x4.heap.size := by omega
      have hb6 : w2.heap.size ≠ x4.heap.size := by omega
      have hb7 : x4.heap.size ≠ w2.heap.size := by omega
      have HV4 := Lib.hid (HV.out.ext h4)
      have HB4 := Lib.hid (HB.out.trans (h4.mono HB.out.size))
      have HM4 := Lib.hid hm4
      have HN4 := Lib.hid (hn4.neB zr us vs ss)
      have HSO4 := Lib.hid (HSO.out.ext h4)
      have zr4 := HV4.out.blk.lt
      have f0 := HV4.out.blk.frozen_ 0
      have f1 := HV4.out.blk.frozen_ 1
      have f2 := HV4.out.blk.frozen_ 2
      have q0 : x4.cell? ⟨w2.heap.size, 0, none⟩ = some (.slice A1 xs.length c1) := (HV4.out.blk.cell_ 0).trans (by simp)
      have q1 : x4.cell? ⟨w2.heap.size, 1, none⟩ = some (.slice A2 ys.length c2) := (HV4.out.blk.cell_ 1).trans (by simp)
      have q2 : x4.cell? ⟨w2.heap.size, 2, none⟩ = some (.slice A3 rs.length c3) := (HV4.out.blk.cell_ 2).trans (by simp)
      clear hm4 hn4 h4 hc hbl p0 p1 p2 HV HB HSO
      go_wp2_with fail
      obtain ⟨W, hW⟩ : ∃ W, ((x4.setCell ⟨w2.heap.size, 0, none⟩ (.slice E1 us.length e1)).setCell ⟨w2.heap.size, 1, none⟩ (.slice E2 vs.length e2)).setCell ⟨w2.heap.size, 2, none⟩ (.slice E3 ss.length e3) = W := ⟨_, rfl⟩
      have KW := HV4.out.put e1 e2 e3 HM4.out HN4.out hW
      have BW : Below w.heap.size w W := by
        rw [← hW]
        exact ((HB4.out.setCell (p := ⟨w2.heap.size, 0, none⟩) zB _).setCell (p := ⟨w2.heap.size, 1, none⟩) zB _).setCell (p := ⟨w2.heap.size, 2, none⟩) zB _
      have SW : Sl W (.int .i64) (some ⟨b, off, none⟩) os := by
        rw [← hW]
        exact (((HSO4.out.far_ (fun g e => by have := hO g e; omega) _ _).far_ (fun g e => by have := hO g e; omega) _ _).far_ (fun g e => by have := hO g e; omega) _ _)
      obtain ⟨U, hU⟩ : ∃ U, W.alloc (.cells #[.slice E1 us.length e1, .slice E2 vs.length e2, .slice E3 ss.length e3] 25) = U := ⟨_, rfl⟩
      have hbU : Below W.heap.size W U := by rw [← hU]; exact (Below.refl _ _).alloc (Nat.le_refl _) _
      have KU := Lib.hid (KW.ext hbU)
      have BU := Lib.hid (BW.trans (hbU.mono BW.size))
      have SU := Lib.hid (SW.ext hbU)
      rw [hW, hU]
      clear hW hU hbU KW BW SW HV4 HB4 HM4 HN4 HSO4 q0 q1 q2 f0 f1 f2 hc4
      go_roundw
      case rel => exact ⟨k + 1, by omega, by go_num, E1, E2, E3, e1, e2, e3, us, vs, ss, KU.out, BU.out, SU.out, N3, N4⟩
      case measure => simp [intOf]; omega
    · obtain rfl : k = os.length := by omega
      obtain ⟨n1, n2⟩ := dir_none HCK.out (HRE.out.trans (List.drop_length ..))
      have N1 := Lib.hid n1; have N2 := Lib.hid n2
      clear n1 n2 HRE HCK
      go_wp2_with fail
      refine (Direct_any A1 A2 A3 c1 c2 c3 xs ys rs _ HV.out.mem).mono ?_
      unfold LPost3
      rw [N2.out, N1.out]
      rintro e x4 ⟨E1, e1, E2, e2, E3, e3, rfl, hm4, hn4, h4⟩
      dsimp only [LR.bad] at hm4 hn4 ⊢
      have HB4 := Lib.hid (HB.out.trans (h4.mono HB.out.size))
      clear hm4 hn4 h4
      go_wp2_with fail
      go_ret
      exact ⟨rfl, HB4.out.alloc (by have := HB4.out.size; omega) _⟩

set_option maxRecDepth 100000 in
theorem scanDirect_lifted (os : Os) (started : os.Started) (H : Type) (enc : TypeId × Value → H) :
    ReturnsInHanded {} Try.checked os 8 .any (Rows.scanDirectSpec.pre6 enc Try.prog Try.f8 Rows.scanDirectRow.domain false) (Rows.scanDirectSpec.post enc Try.prog Try.f8 false true false false) := by
  refine returnsInHanded_of_change (C := Try.checked) own started (by kernel_rfl) Try.func8
    (ChangeSpec.witness6 (enc := enc) (C := Try.checked) false ⟨#[], #[.slice none 0 0], []⟩ 8 (by kernel_rfl) (by kernel_rfl) (by kernel_rfl) (by kernel_rfl)) ?_
  intro W base args ds gs before hval0 hW hcnd _
  have hval : ∀ (j : Nat) t v, Try.f8.params[j]? = some t → args[j]? = some v → Value.okWide Try.prog W .any base t v := hval0
  have hW' := hW
  obtain ⟨p, q, hA0, hV, rfl, hfz, hnd⟩ := hW
  have hA : DataW.TrodAll enc Try.prog W 0 (fun _ => true) true Try.f8.params.toList args.toList ds p := hA0
  rw [Try.params8] at hA hval
  obtain ⟨v0, vs0, d0, ds0, p0, q0, hargs, rfl, rfl, h0, r0⟩ := trodAll_cons hA
  obtain ⟨rfl, rfl, rfl⟩ := trodAll_nil r0
  obtain rfl : args = #[v0] := by cases args; simp_all
  obtain ⟨rfl, rfl⟩ := trodVars_none hV
  obtain ⟨A0, k0, a0, rfl, s0, w0, l0⟩ := open_slI Try.underlying22 Try.underlying3 (by kernel_rfl) (hval 0 22 v0 rfl rfl) h0
  clear hA0 hval0
  refine (scanDirect_walk A0 k0 a0 W s0 w0 l0).mono fun e W' ⟨he, hb⟩ => ⟨_, he, ?_⟩
  exact law_post laidOut (s := Rows.scanDirectSpec) (B := 4) rfl rfl Try.underlying4 (by decide +kernel) hW' rfl hb

theorem scanDirect_holds : Rows.ScanDirectSaid :=
  OpenClaim.holds_of_wide 8 Try.f8 rfl rfl rfl rfl rfl rfl rfl ⟨rfl, rfl, rfl, rfl, rfl⟩ rfl rfl rfl rfl rfl (by kernel_rfl) Try.func8 (by kernel_rfl)
    (of_decide_eq_true (by kernel_rfl)) (by unfold Func.isWrapper; first | (rw [if_pos (by decide +kernel)]; kernel_rfl) | (rw [if_neg (by decide +kernel)]; exact ⟨rfl, rfl⟩))
    (fun os started H enc _ => scanDirect_lifted os started H enc)

end Go.Proofs.Ytiobbdfkimpfbaa
