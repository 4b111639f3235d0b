/- OomSums: yields add up. -/
import Derived.Test.YtmbpjafiinfkkaaGreatDoorOW9
import Derived.Test.YtmbpjafiinfkkaaGreatDoorOWC
namespace Go.Proofs.YtmbpjafiinfkkaaGreatDoor
set_option linter.unusedSimpArgs false
set_option linter.unusedVariables false
open Go.RowKit Go.Maps
open Go.ChangeShapes Go.WideShapes Go.ChangeAt Go.Joins

theorem vint {a b : Int} (h : a = b) : (Value.int .i64 a) = .int .i64 b := by rw [h]
theorem fr_start (g : Nat → Bool) (es : List Nat) : frB g = frB (fun n => g n || decide ((n : Int) ∈ frmL (es.take 0))) := frB_congr fun n _ => by simp [frmL]
theorem fr_skip {g : Nat → Bool} {es : List Nat} {m x : Nat} (hx : es[m]? = some x) (h : x % 4 ≠ 1) : frB (fun n => g n || decide ((n : Int) ∈ frmL (es.take m))) = frB (fun n => g n || decide ((n : Int) ∈ frmL (es.take (m + 1)))) := frB_congr fun n _ => by rw [take_snocG hx, frmL_snoc, if_neg h, List.append_nil]
theorem fr_put {g : Nat → Bool} {es : List Nat} {m x q : Nat} (hx : es[m]? = some x) (h : x % 4 = 1) (hq : eN x = (q : Int)) : (frB (fun n => g n || decide ((n : Int) ∈ frmL (es.take m)))).setIfInBounds q (.bool true) = frB (fun n => g n || decide ((n : Int) ∈ frmL (es.take (m + 1)))) := by
  rw [frB_set]
  refine frB_congr fun n _ => ?_
  rw [take_snocG hx, frmL_snoc, if_pos h, hq]
  by_cases e : n = q
  · subst e; simp
  · have e1 : (n == q) = false := by simpa using e
    have e2 : ¬ (n : Int) = (q : Int) := by omega
    simp [e1, e2]
theorem fr_end {l : List PV} {k : Nat} {p : PV} (hp : l[k]? = some p) (h0 : p.st ≠ 0) : frB (fun n => frsB l k n || decide ((n : Int) ∈ frmL (p.es.take 64))) = frB (frsB l (k + 1)) := frB_congr fun n _ => by rw [frsB_live hp h0, List.take_of_length_le (by rw [p.he]; exact Nat.le_refl _)]

set_option maxRecDepth 100000 in
set_option maxHeartbeats 32000000 in
theorem oomSums_walk (A : Option Addr) (c : Nat) (nums : List Int) (w : World) (hs : Sl w (.int .i64) A nums) (_hw0 : ∀ x ∈ nums, (Lit.int .i64 x).wf = true) (hl0 : nums.length ≤ maxLen) (hal : AL w) :
    Calls Tryz.prog 7 #[.slice A nums.length c] w fun e w' => e = .returned (.bool true) ∧ Below w.heap.size w w' := by
  have HAL := Lib.hid hal
  have hnl : nums.length ≤ 9223372036854775807 := by unfold maxLen at hl0; omega
  have HS := Lib.hid hs
  clear hal hs hl0
  go_enter Tryz.func7, Tryz.ntmps7
  go_wp2_with fail
  refine (oomKnown_walk _ HAL.out).mono ?_
  rintro e w1 ⟨rfl, hb1⟩
  go_wp2_with fail
  refine (made_any A c nums w1 (HAL.out.ext hb1) (HS.out.ext hb1) hnl).mono ?_
  rintro e w2 ⟨⟨B, db, l, rfl, hO, l1, l8, hpv⟩, hb2⟩
  have B2 : Below w.heap.size w w2 := hb1.trans (hb2.mono hb1.size)
  have z12 : w.heap.size ≤ w2.heap.size := B2.size
  have hsc : scrE l = 0 := by
    unfold scrE
    rw [if_neg (by omega)]
    exact fstNZ_all fun y hy => by
      obtain ⟨p, hp, rfl⟩ := List.mem_map.1 hy
      exact (hpv p hp).sco
  have HO : Hid (SR procE w2 B l) := (OwnR.sr hO).2
  have HPV := Lib.hid hpv
  have HAL2 : Hid (AL w2) := HAL.out.ext B2
  have HSC := Lib.hid hsc
  clear hO hpv hb1 hb2 HS hsc
  go_wp2_with fail
  obtain ⟨V, hV⟩ : ∃ V, w2.alloc (.cells Tryz.zeroCells61 61) = V := ⟨_, rfl⟩
  have kV : Blk V w2.heap.size 61 (frB (fun _ => false)) := by rw [← hV, ← zc256]; exact Blk.new_ rfl rfl
  have bV : Below w2.heap.size w2 V := by rw [← hV]; exact (by repeat' (first | with_reducible exact Below.refl _ _ | with_reducible assumption | with_reducible apply Below.drew | with_reducible apply below_drewN | with_reducible apply Below.alloc | with_reducible apply Below.setCell | (with_reducible refine Below.trans ?_ (Below.mono (by assumption) ?_)) | (simp; done) | (simp; omega) | omega | with_reducible apply le_size_alloc | with_reducible apply le_size_drewN | with_reducible apply le_size_drew | with_reducible apply le_size_setCell | refine Nat.le_trans ?_ (Below.size (by assumption))))
  rw [hV]
  clear hV
  go_loopw [8, 5, 6] (fun i s t wr => ∃ (k a T : Nat), k ≤ l.length ∧ i = .int .i64 k ∧ s = .int .i64 ((T : Int) + (a : Int)) ∧ t = .int .i64 T ∧ T ≤ 9 * k ∧ a ≤ cntF (frsB l k) ∧ Hid (Blk wr w2.heap.size 61 (frB (frsB l k))) ∧ Below w2.heap.size w2 wr) (fun i _ _ _ => l.length - (intOf i).toNat)
  case atStart => exact ⟨0, 0, 0, by omega, rfl, rfl, rfl, by omega, by omega, by rw [frsB_zero]; exact kV, bV⟩
  case round =>
    obtain ⟨k, a, T, hk, rfl, rfl, rfl, hT, ha, HF, hbr⟩ := hrel
    obtain ⟨wo, rfl⟩ : ∃ wo, wo = wr := ⟨_, rfl⟩
    have zwo := hbr.size
    have ha256 := cntF_le (frsB l k)
    have BWo : Below w.heap.size w wo := B2.trans (hbr.mono z12)
    by_cases hlt : k < l.length
    · obtain ⟨b, off, p, rfl, hbl, hpx, hR⟩ := proc_at (HO.out.ext hbr) hlt
      have hst : wo.cell? ⟨b, off + k * 75, none⟩ = some (.int .i64 p.st) := by have := hR 0 _ (show (pvC p)[0]? = some (.int .i64 p.st) from rfl); simpa using this
      have i1 : (k : Int) < l.length := by omega
      have hok := HPV.out p (List.mem_of_getElem? hpx)
      have hY := fun w' hb => Yield_any (some ⟨b, off, none⟩) db l ((k : Int) + 1) w' (HAL2.out.ext hb) (HO.out.ext hb) (by omega)
      by_cases h0 : p.st = 0
      · obtain ⟨e1, e2⟩ := yld_dead HSC.out hpx h0
        rw [e1, e2] at hY
        have hF := HF.out
        rw [← frsB_dead hpx h0] at hF
        have HF2 := Lib.hid hF
        have ha2 : Hid (a ≤ cntF (frsB l (k + 1))) := by show _ ≤ _; rw [frsB_dead hpx h0]; exact ha
        have hb0 : (p.st == 0) = true := by simpa using h0
        clear e1 e2 hF h0 hpx hok
        go_wp2_with fail
        refine (hY _ hbr).mono ?_
        rintro e w3 ⟨rfl, hb3⟩
        have q := cell_keep hb3 hst hbl
        have k3 := HF2.out.below_ hb3 HF2.out.lt
        clear hst hR
        go_wp2
        go_roundw
        case rel => exact ⟨k + 1, a, T, by omega, by go_num, rfl, rfl, by omega, ha2.out, k3, hbr.trans (hb3.mono zwo)⟩
        case measure => simp [intOf]; omega
      · obtain ⟨e1, e2⟩ := yld_live HSC.out hpx h0 hok.2
        have hcs := cnt_step hpx h0
        have hal256 := aloneL_len l k
        have hlv8 : lvsN p.lv ≤ 8 := by have := lvsN_le p.lv; rw [p.hl] at this; exact this
        rw [e1, e2] at hY
        generalize (aloneL l k).length = al at hY hcs hal256
        have HCS := Lib.hid hcs
        have hb0 : (p.st == 0) = false := by simpa using h0
        have HP0 := Lib.hid h0
        have HPX := Lib.hid hpx
        have HEs := Lib.hid hok.1
        have hyn : (1 : Int) ≤ ((al + (1 + lvsN p.lv) : Nat) : Int) := by omega
        clear e1 e2 hcs h0 hpx hok
        go_wp2_with fail
        refine (hY _ hbr).mono ?_
        rintro e w3 ⟨rfl, hb3⟩
        have q := cell_keep hb3 hst hbl
        have k3 := HF.out.below_ hb3 HF.out.lt
        have B3 : Below w2.heap.size w2 w3 := hbr.trans (hb3.mono zwo)
        obtain ⟨b2, hb2⟩ : ∃ b2, b = b2 := ⟨_, rfl⟩
        have hRl : ∀ w', Below w3.heap.size w3 w' → w'.rangeAt b (off + k * 75) (pvC p) := fun w' hb j v hv => cell_keep hb (cell_keep hb3 (hR j v hv) hbl) (Nat.lt_of_lt_of_le hbl hb3.size)
        have hRw : ∀ w', Below w2.heap.size w2 w' → w'.rangeAt b (off + k * 75) (pvC p) := fun w' hb => by
          obtain ⟨b', off', p', e1, hbl', hpx', hR'⟩ := proc_at (HO.out.ext hb) hlt
          injection e1 with e1
          injection e1 with e1 e2 _
          subst e1 e2
          have := HPX.out
          rw [hpx'] at this
          injection this with this
          rw [← this]
          exact hR'
        have HRW := Lib.hid hRw
        clear hst hR hRl hb2 hRw
        go_wp2
        go_loopw [11, 6] (fun j t wr => ∃ m : Nat, m ≤ 8 ∧ j = .int .i64 m ∧ t = .int .i64 ((T : Int) + 1 + (lvsN (p.lv.take m) : Int)) ∧ wr = w3) (fun j _ _ => 8 - (intOf j).toNat)
        case atStart => exact ⟨0, by omega, rfl, by simp [lvsN], rfl⟩
        case round =>
          obtain ⟨m, hm, rfl, rfl, rfl⟩ := hrel
          by_cases hm8 : m < 8
          · obtain ⟨ly, hly⟩ : ∃ ly, p.lv[m]? = some ly := ⟨_, List.getElem?_eq_getElem (by rw [p.hl]; exact hm8)⟩
            have i2 : (m : Int) < 8 := by omega
            have qc : wr.cell? ⟨b, off + k * 75 + 2 + m, none⟩ = some (.int .i64 ly) := by have := HRW.out wr B3 (2 + m) _ (pvC_leaf p hly); rw [Nat.add_assoc]; exact this
            have hsn := lvsN_snoc (p.lv.take m) ly
            rw [← take_snocG hly] at hsn
            have hln := lvsN_le (p.lv.take m)
            have hln8 : lvsN (p.lv.take m) ≤ 8 := by rw [List.length_take] at hln; omega
            have HSN := Lib.hid hsn
            clear hly hsn hln
            generalize lvsN (p.lv.take m) = lm at *
            by_cases hly1 : ly = -1
            · have hbb : (ly != -1) = false := by simpa using hly1
              have HN : Hid (lvsN (p.lv.take (m + 1)) = lm) := by have := HSN.out; rw [if_pos hly1] at this; exact this
              clear hly1
              go_wp2
              go_roundw
              case rel => exact ⟨m + 1, by omega, by go_num, by rw [HN.out], trivial⟩
              case measure => simp [intOf]; omega
            · have hbb : (ly != -1) = true := by simpa using hly1
              have HN : Hid (lvsN (p.lv.take (m + 1)) = lm + 1) := by have := HSN.out; rw [if_neg hly1] at this; exact this
              clear hly1
              go_wp2
              go_roundw
              case rel => exact ⟨m + 1, by omega, by go_num, by rw [HN.out]; exact vint (by simp; omega), trivial⟩
              case measure => simp [intOf]; omega
          · rw [List.take_of_length_le (by rw [p.hl]; omega)]
            generalize lvsN p.lv = lv at *
            have i2 : ¬ (m : Int) < 8 := by omega
            clear hm8
            go_wp2
            go_loopw [12] (fun j wr => ∃ m : Nat, m ≤ 64 ∧ j = .int .i64 m ∧ Hid (Blk wr w2.heap.size 61 (frB (fun n => frsB l k n || decide ((n : Int) ∈ frmL (p.es.take m))))) ∧ Below w2.heap.size w2 wr) (fun j _ => 64 - (intOf j).toNat)
            case atStart => exact ⟨0, by omega, rfl, by rw [← fr_start]; exact k3, B3⟩
            case round =>
              obtain ⟨m, hm, rfl, HB, hbw⟩ := hrel
              have zw := HB.out.lt
              by_cases hm64 : m < 64
              · obtain ⟨x, hx⟩ : ∃ x, p.es[m]? = some x := ⟨_, List.getElem?_eq_getElem (by rw [p.he]; exact hm64)⟩
                have i2 : (m : Int) < 64 := by omega
                have qc : wr.cell? ⟨b, off + k * 75 + 11 + m, none⟩ = some (.int .u64 (x : Int)) := by have := HRW.out wr hbw (11 + m) _ (pvC_ent p hx); rw [Nat.add_assoc]; exact this
                have hux := HEs.out x (List.mem_of_getElem? hx)
                have hx64 := p.hw x (List.mem_of_getElem? hx)
                have hU := fun w' (hb : Below w2.heap.size w2 w') => unpack_ok x w' (HAL2.out.ext hb) hx64 hux
                have wra : Below w2.heap.size w2 wr := hbw
                by_cases h1 : x % 4 = 1
                · obtain ⟨q, hq, hq2⟩ : ∃ q : Nat, eN x = (q : Int) ∧ q < 256 := ⟨x / 256 % 256, rfl, by omega⟩
                  have hP := fr_put (g := frsB l k) hx h1 hq
                  have HP := Lib.hid hP
                  have hb1 : (eK x == 1) = true := by simp [eK]; omega
                  rw [hq] at hU
                  have hat := frB_at (fun n => frsB l k n || decide ((n : Int) ∈ frmL (p.es.take m))) hq2
                  generalize frB (fun n => frsB l k n || decide ((n : Int) ∈ frmL (p.es.take m))) = F0 at HB HP hat
                  have hq3 : (q : Int) < 256 := by omega
                  clear hx hP h1 hux
                  go_wp2_with (go_at_call 39; refine (hU _ hbw).mono ?_; rintro e w4 ⟨rfl, hb4⟩; have k4 := HB.out.below_ hb4 zw; have c4 := (k4.cell_ q).trans hat; have f4 := k4.frozen_ q; have z4 := k4.lt)
                  go_roundw
                  case rel => exact ⟨m + 1, by omega, by go_num, by show Blk _ _ _ _; rw [← HP.out]; exact (k4.set_ _ _).alloc_ _, Below.alloc (Below.setCell (hbw.trans (hb4.mono (by omega))) (by simp) _) (by simp; omega) _⟩
                  case measure => simp [intOf]; omega
                · have HP := Lib.hid (fr_skip (g := frsB l k) hx h1)
                  have hb1 : (eK x == 1) = false := by simp [eK]; omega
                  clear hx h1 hux
                  go_wp2_with (go_at_call 39; refine (hU _ hbw).mono ?_; rintro e w4 ⟨rfl, hb4⟩; have k4 := HB.out.below_ hb4 zw; have z4 := k4.lt)
                  go_roundw
                  case rel => exact ⟨m + 1, by omega, by go_num, by show Blk _ _ _ _; rw [← HP.out]; exact k4.alloc_ _, (hbw.trans (hb4.mono (by omega))).alloc (by omega) _⟩
                  case measure => simp [intOf]; omega
              · obtain rfl : m = 64 := by omega
                have hB := HB.out
                rw [fr_end HPX.out HP0.out] at hB
                have HBB := Lib.hid hB
                clear hB HB hm64
                go_wp2
                go_roundw
                case rel => exact ⟨k + 1, a + al, T + 1 + lv, by omega, by go_num, vint (by simp; omega), vint (by simp), by omega, by have := HCS.out; omega, HBB.out, hbw⟩
                case measure => simp [intOf]; omega
    · obtain rfl : k = l.length := by omega
      obtain ⟨G, hG⟩ : ∃ G, frsB l l.length = G := ⟨_, rfl⟩
      rw [hG] at HF ha ha256
      have zF := HF.out.lt
      clear hG hlt
      go_wp2
      go_loopw [15, 6] (fun j t wr => ∃ m : Nat, m ≤ 256 ∧ j = .int .i64 m ∧ t = .int .i64 ((T : Int) + (((List.range m).filter G).length : Int)) ∧ wr = wo) (fun j _ _ => 256 - (intOf j).toNat)
      case atStart => exact ⟨0, by omega, rfl, by simp, rfl⟩
      case round =>
        obtain ⟨m, hm, rfl, rfl, rfl⟩ := hrel
        by_cases hm2 : m < 256
        · have i2 : (m : Int) < 256 := by omega
          have qc := (HF.out.cell_ m).trans (frB_at G hm2)
          have hcn := cnt_next G m
          have hcl : ((List.range m).filter G).length ≤ 256 := Nat.le_trans (List.length_filter_le _ _) (by simp; omega)
          have HCN := Lib.hid hcn
          clear hcn
          generalize ((List.range m).filter G).length = cm at *
          cases hg : G m
          · rw [hg] at qc
            have HN : Hid (((List.range (m + 1)).filter G).length = cm) := by show _ = _; have := HCN.out; rw [hg] at this; simpa using this
            clear hg
            go_wp2
            go_roundw
            case rel => exact ⟨m + 1, by omega, by go_num, by rw [HN.out], trivial⟩
            case measure => simp [intOf]; omega
          · rw [hg] at qc
            have HN : Hid (((List.range (m + 1)).filter G).length = cm + 1) := by show _ = _; have := HCN.out; rw [hg] at this; simpa using this
            clear hg
            go_wp2
            go_roundw
            case rel => exact ⟨m + 1, by omega, by go_num, by rw [HN.out]; exact vint (by simp; omega), trivial⟩
            case measure => simp [intOf]; omega
        · obtain rfl : m = 256 := by omega
          have hle : (T : Int) + (a : Int) ≤ (T : Int) + (((List.range 256).filter G).length : Int) := by have : a ≤ ((List.range 256).filter G).length := ha; omega
          have hc256 : ((List.range 256).filter G).length ≤ 256 := ha256
          generalize ((List.range 256).filter G).length = cg at hle hc256 ⊢
          clear hm2
          go_wp2
          refine bodyPost_ret (v := .bool true) (by simp [results, Tryz.results7, go_sem]) rfl ?_
          exact ⟨rfl, BWo⟩

set_option maxRecDepth 100000 in
theorem oomSums_lifted (os : Os) (started : os.Started) (H : Type) (enc : TypeId × Value → H) :
    ReturnsInHanded {} Tryz.checked os 7 .any (fun w args => (Rows.oomSumsSpec.pre enc Tryz.prog Tryz.f7 [] false w args ∧ laidMetH Tryz.prog laidV w) ∧ sizedMet enc Tryz.prog Tryz.f7 (OpenSpec.ofChange Rows.oomSumsSpec) false w args) (Rows.oomSumsSpec.post enc Tryz.prog Tryz.f7 false true false false) := by
  refine returnsInHanded_of_change_and (C := Tryz.checked) (X := fun w _ => laidMetH Tryz.prog laidV w) (fun _ _ _ hh h => h.of_heap hh) own started (by kernel_rfl) Tryz.func7
    (ChangeSpec.witness_shaped (enc := enc) (C := Tryz.checked) (os := os) (X := fun w _ => laidMetH Tryz.prog laidV w) false (World.doorLaid Tryz.prog 400 os) #[.slice none 0 0] 8 rfl (World.shaped_of_RefB (by kernel_rfl) (by kernel_rfl)) (by kernel_rfl) (by kernel_rfl) (by kernel_rfl) (door_met os _)) ?_
  intro W base args ds gs before hval0 hW hcnd _ hL _
  have hval : ∀ (j : Nat) t v, Tryz.f7.params[j]? = some t → args[j]? = some v → Value.okWide Tryz.prog W .any base t v := hval0
  have hW' := hW
  obtain ⟨p, q, hA0, hV, rfl, hfz, hnd⟩ := hW
  have hA : DataW.TrodAll enc Tryz.prog W 0 (fun _ => true) true Tryz.f7.params.toList args.toList ds p := hA0
  rw [Tryz.params7] at hA hval
  obtain ⟨v0, vs0, d0, ds0, p0, q0, hargs, rfl, rfl, h0, r0⟩ := trodAll_cons hA
  obtain ⟨rfl, rfl, rfl⟩ := trodAll_nil r0
  obtain rfl : args = #[v0] := by cases args; simp_all
  obtain ⟨rfl, rfl⟩ := trodVars_none hV
  obtain ⟨A0, k0, a0, rfl, s0, w0, l0⟩ := open_slI Tryz.underlying23 Tryz.underlying3 (by kernel_rfl) (hval 0 23 v0 rfl rfl) h0
  clear hA0 hval0
  refine (oomSums_walk A0 k0 a0 W s0 w0 l0 (of_laid hL)).mono fun e W' ⟨he, hb⟩ => ⟨_, he, ?_⟩
  exact law_post laidOut (s := Rows.oomSumsSpec) (B := 4) rfl rfl Tryz.underlying4 (by decide +kernel) hW' rfl hb

theorem oomSums_holds : Rows.OomSumsSaid :=
  OpenClaim.holds_of_wide 7 Tryz.f7 rfl rfl rfl rfl rfl rfl rfl ⟨rfl, rfl, rfl, rfl, rfl⟩ rfl rfl rfl rfl rfl (by kernel_rfl) Tryz.func7 (by kernel_rfl)
    (of_decide_eq_true (by kernel_rfl)) (by unfold Func.isWrapper; first | (rw [if_pos (by decide +kernel)]; kernel_rfl) | (rw [if_neg (by decide +kernel)]; exact ⟨rfl, rfl⟩))
    (fun os started H enc _ => oomSums_lifted os started H enc)

theorem oomSums_card : Rows.OomSumsCardSaid :=
  Claim7.holds_tied_plain_at .later [] [.data] true Rows.oomSumsCard.stood.harness false
    oomSums_holds (fun _ h => by cases h) (by kernel_rfl) (fun _ h => by cases h) oomSums_row_tie rfl ⟨rfl, rfl⟩ (by kernel_rfl) rfl
    (fun f fn hf hfn => by
      obtain rfl : f = 7 := Option.some.inj ((show Tryz.prog.funcNamed "headgate/headgatelaw34.OomSums" = some 7 by kernel_rfl).symm.trans hf) |>.symm
      obtain rfl : fn = Tryz.f7 := (Option.some.inj (Tryz.func7.symm.trans hfn)).symm
      exact ⟨by kernel_rfl, fun j t ht => by
        have hall : (Tryz.f7.params.toList.all fun u => !Tryz.prog.wantsStandIn u) = true := by kernel_rfl
        have hm : t ∈ Tryz.f7.params.toList := by simpa using Array.mem_of_getElem? ht
        exact (show Tryz.prog.wantsStandIn t = false by simpa using List.all_eq_true.1 hall t hm)⟩)
    (by kernel_rfl)

end Go.Proofs.YtmbpjafiinfkkaaGreatDoor
