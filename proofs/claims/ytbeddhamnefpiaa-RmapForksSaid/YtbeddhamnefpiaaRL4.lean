/- headgatelaw25: made. Written by gen_rl4.py. -/
import Derived.Test.YtbeddhamnefpiaaRL3
import Derived.Test.YtbeddhamnefpiaaKit
import Derived.Test.YtbeddhamnefpiaaKitN
namespace Go.Proofs.Ytbeddhamnefpiaa
set_option linter.unusedSimpArgs false
set_option linter.unusedVariables false
open Go.RowKit Go.Maps

/-- What made hands back. -/
structure MadeL (l : List M3) : Prop where
  ok : OkL l
  len : l.length ≤ 30
  lo : ∀ m ∈ l, m.2.1 ≤ 3
def MadeP (w : World) (e : Ending) (w' : World) : Prop := ∃ l A c, e = .returned (.tuple #[.slice A l.length c, .bool true]) ∧ MadeL l ∧ CR mapE w' A c l ∧ Below w.heap.size w w'
theorem findM_of {l : List M3} (ok : OkL l) {m : M3} (h : m ∈ l) : findM l m.2 = some m.1 := by
  cases hf : findM l m.2 with
  | none => exact absurd rfl (findM_no hf m h)
  | some f =>
    have h2 := findM_some hf
    have := ok.inj h2 h rfl
    rw [← this]
theorem addM_ok {l : List M3} (ok : OkL l) {f : Int} {p : Int × Int} (h : okM (f, p) = true) : (findM l p = none ∧ addM l f p = (putM l (f, p), 0)) ∨ ((∃ g, findM l p = some g) ∧ addM l f p = ([], 7)) := by
  unfold addM
  rw [ok.chk, if_neg (by simp), if_pos h]
  cases findM l p with
  | none => exact .inl ⟨rfl, rfl⟩
  | some g => exact .inr ⟨⟨g, rfl⟩, rfl⟩
theorem MadeL.put {l : List M3} {k : Nat} (h : OkL l) (hlo : ∀ m ∈ l, m.2.1 ≤ 3) {x : M3} (hx : okM x = true) (h3 : x.2.1 ≤ 3) (hn : findM l x.2 = none) (hk : l.length ≤ k) : OkL (putM l x) ∧ (∀ m ∈ putM l x, m.2.1 ≤ 3) ∧ (putM l x).length ≤ k + 1 :=
  ⟨h.put hx (findM_no hn), fun m hm => (mem_putM.1 hm).elim (fun e => by rw [e]; exact h3) (fun h => hlo m h), by rw [putM_len]; omega⟩

set_option maxRecDepth 100000 in
set_option maxHeartbeats 1000000 in
theorem made_any (A : Option Addr) (c : Nat) (nums : List Int) (w : World) (hn : Sl w (.int .i64) A nums) (hln : nums.length ≤ 9223372036854775807) :
    Calls Try.prog 39 #[.slice A nums.length c] w (MadeP w) := by
  have HN := Lib.hid hn
  clear hn
  go_enter Try.func39, Try.ntmps39
  go_wp2
  go_loopw [4, 5] (fun v i wr => ∃ (k : Nat) (ys : List M3) (A2 : Option Addr) (c2 : Nat), k ≤ 30 ∧ k ≤ nums.length ∧ i = .int .i64 k ∧ v = .slice A2 ys.length c2 ∧ Hid (OkL ys ∧ (∀ m ∈ ys, m.2.1 ≤ 3) ∧ ys.length ≤ k) ∧ Hid (CR mapE wr A2 c2 ys) ∧ Below w.heap.size w wr) (fun _ i _ => 30 - (intOf i).toNat)
  case atStart => exact ⟨0, [], none, 0, by omega, by omega, rfl, rfl, ⟨⟨by simp, List.Pairwise.nil, List.Pairwise.nil⟩, by simp, by simp⟩, CR.nil, Below.refl _ _⟩
  case round =>
    obtain ⟨k, ys, A2, c2, hk, hkn, rfl, rfl, HY, HC, hbw⟩ := hrel
    by_cases hlt : k < nums.length
    · have i1 : (k : Int) < nums.length := by omega
      by_cases hk' : k < 30
      · have i2 : (k : Int) < 30 := by omega
        obtain ⟨b, off, x, rfl, hbl, hx, hc⟩ := (HN.out.ext hbw).at_ hlt
        have m0 : 0 ≤ x % 1048576 := Int.emod_nonneg _ (by decide)
        have m1 : x % 1048576 < 1048576 := Int.emod_lt_of_pos _ (by decide)
        obtain ⟨n, hy⟩ : ∃ y, x % 1048576 = y := ⟨_, rfl⟩
        rw [hy] at m0 m1
        have HX := Lib.hid hy
        clear hx hy
        have e1 : n.tmod 9 = n % 9 := Int.tmod_eq_emod_of_nonneg m0
        have e2 : n.tdiv 9 = n / 9 := Int.tdiv_eq_ediv_of_nonneg m0
        have e3 : n.tdiv 27 = n / 27 := Int.tdiv_eq_ediv_of_nonneg m0
        obtain ⟨f, hf⟩ : ∃ f, n % 9 = f := ⟨_, rfl⟩
        obtain ⟨d, hd⟩ : ∃ f, n / 9 = f := ⟨_, rfl⟩
        obtain ⟨q0, hq0⟩ : ∃ f, n / 27 = f := ⟨_, rfl⟩
        have f0 : 0 ≤ f ∧ f < 9 := by omega
        have d0 : 0 ≤ d := by omega
        have q00 : 0 ≤ q0 := by omega
        rw [hf] at e1; rw [hd] at e2; rw [hq0] at e3
        have e4 : d.tmod 3 = d % 3 := Int.tmod_eq_emod_of_nonneg d0
        have e5 : q0.tmod 7 = q0 % 7 := Int.tmod_eq_emod_of_nonneg q00
        obtain ⟨p, hp⟩ : ∃ p, d % 3 = p := ⟨_, rfl⟩
        obtain ⟨q, hq⟩ : ∃ q, q0 % 7 = q := ⟨_, rfl⟩
        have p0 : 0 ≤ p ∧ p < 3 := by omega
        have q1 : 0 ≤ q ∧ q < 7 := by omega
        rw [hp] at e4; rw [hq] at e5
        have hok : okM (f, 1 + p, q) = true := by rw [okM_iff]; dsimp only; omega
        have hp3 : (f, 1 + p, q).2.1 ≤ 3 := by show 1 + p ≤ 3; omega
        have HP3 := Lib.hid hp3
        have hyl := HY.out.2.2
        have ly : ys.length ≤ 1000 := by omega
        have LY := Lib.hid ly
        have HQ : Hid ((findM ys (1 + p, q) = none ∧ addM ys f (1 + p, q) = (putM ys (f, 1 + p, q), 0)) ∨ ((∃ g, findM ys (1 + p, q) = some g) ∧ addM ys f (1 + p, q) = ([], 7))) := addM_ok HY.out.1 hok
        have HOK := Lib.hid hok
        obtain ⟨p', hp'⟩ : ∃ p', 1 + p = p' := ⟨_, rfl⟩
        have hwr : IntKind.i64.wrap (1 + p) = p' := (IntWalk.i64_in _ (by omega)).trans hp'
        rw [hp'] at HOK HP3 HQ
        clear hok hp3 hyl ly
        rcases HQ.out with ⟨hfn, had⟩ | ⟨_, had⟩
        · obtain ⟨M, hM⟩ : ∃ M, putM ys (f, p', q) = M := ⟨_, rfl⟩
          have HM : Hid (OkL M ∧ (∀ m ∈ M, m.2.1 ≤ 3) ∧ M.length ≤ k + 1) := by rw [← hM]; exact MadeL.put HY.out.1 HY.out.2.1 HOK.out HP3.out hfn HY.out.2.2
          rw [hM] at had
          have HD := Lib.hid had
          clear hfn had hM HQ
          go_wp2_with (first | (go_at_call 40; refine (Mod_any _ _ _ (by omega) (by omega)).mono ?_; rw [HX.out]; rintro e w' ⟨rfl, rfl⟩) | (go_at_call 36; refine (lat_any _ _ _).mono ?_; rintro e w1 ⟨rfl, hb1⟩) | (go_at_call 27; refine (Add_any A2 c2 ys f p' q _ (HC.out.1.ext hb1) LY.out).mono ?_; unfold LePost; rw [HD.out]; rintro e w2 ⟨A3, c3, rfl, hc3, hb2⟩))
          have HC3 := Lib.hid hc3
          have B2 : Hid (Below w.heap.size w w2) := hbw.trans ((hb1.trans (hb2.mono hb1.size)).mono hbw.size)
          go_roundw
          case rel => exact ⟨k + 1, M, A3, c3, by omega, by omega, by go_num, rfl, HM.out, HC3.out, B2.out⟩
          case measure => simp [intOf]; omega
        · have HD := Lib.hid had
          clear had HQ
          go_wp2_with (first | (go_at_call 40; refine (Mod_any _ _ _ (by omega) (by omega)).mono ?_; rw [HX.out]; rintro e w' ⟨rfl, rfl⟩) | (go_at_call 36; refine (lat_any _ _ _).mono ?_; rintro e w1 ⟨rfl, hb1⟩) | (go_at_call 27; refine (Add_any A2 c2 ys f p' q _ (HC.out.1.ext hb1) LY.out).mono ?_; unfold LePost; rw [HD.out]; rintro e w2 ⟨A3, c3, rfl, hc3, hb2⟩))
          have HC2 : Hid (CR mapE w2 A2 c2 ys) := (HC.out.ext hb1).ext hb2
          have B2 : Hid (Below w.heap.size w w2) := hbw.trans ((hb1.trans (hb2.mono hb1.size)).mono hbw.size)
          go_roundw
          case rel => exact ⟨k + 1, ys, A2, c2, by omega, by omega, by go_num, rfl, ⟨HY.out.1, HY.out.2.1, by have := HY.out.2.2; omega⟩, HC2.out, B2.out⟩
          case measure => simp [intOf]; omega
      · have i2 : ¬ ((k : Int) < 30) := by omega
        go_wp2
        refine bodyPost_ret (v := .tuple #[.slice A2 ys.length c2, .bool true]) (by simp [results, Try.results39, go_sem]) rfl ?_
        exact ⟨ys, A2, c2, rfl, ⟨HY.out.1, by have := HY.out.2.2; omega, HY.out.2.1⟩, HC.out, hbw⟩
    · have i1 : ¬ ((k : Int) < nums.length) := by omega
      go_wp2
      refine bodyPost_ret (v := .tuple #[.slice A2 ys.length c2, .bool true]) (by simp [results, Try.results39, go_sem]) rfl ?_
      exact ⟨ys, A2, c2, rfl, ⟨HY.out.1, by have := HY.out.2.2; omega, HY.out.2.1⟩, HC.out, hbw⟩

theorem cntM_put (l : List M3) (x : M3) (f : Int) : cntM (putM l x) f = cntM l f + if x.1 = f then 1 else 0 := by
  unfold cntM
  rw [((putM_perm l x).filter _).length_eq]
  by_cases h : x.1 = f
  · rw [List.filter_cons_of_pos (by simpa using h), if_pos h]; simp
  · rw [List.filter_cons_of_neg (by simpa using h), if_neg h]; simp
theorem del_put {l : List M3} (ok : OkL l) {x : M3} (hx : okM x = true) (hn : ∀ m ∈ l, m.2 ≠ x.2) : delM (putM l x) x = l := by
  have ok2 := ok.put hx hn
  refine asc_eq _ _ (asc_filter ok2.asc _) ok.asc (fun m => ?_)
  unfold delM
  rw [List.mem_filter, mem_putM, decide_eq_true_eq]
  constructor
  · rintro ⟨h | h, h2⟩
    · exact absurd h h2
    · exact h
  · intro h
    exact ⟨.inr h, fun e => hn m h (by rw [e])⟩
end Go.Proofs.Ytbeddhamnefpiaa
