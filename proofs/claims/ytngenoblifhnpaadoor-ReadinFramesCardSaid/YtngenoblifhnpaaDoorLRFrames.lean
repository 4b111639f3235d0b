/- ReadinFrames: in every run each frame is mapped or freed once, or the access still has it, and no run has more than 5 events. Written by gen_rframes.py. -/
import Derived.Test.YtngenoblifhnpaaDoorLRKnown
import Derived.Test.YtngenoblifhnpaaDoorRiF
import Derived.Test.YtngenoblifhnpaaDoorFree2
import Derived.Test.YtngenoblifhnpaaDoorKitN
namespace Go.Proofs.YtngenoblifhnpaaDoor
open Go.RowKit Go.Maps
open Go.ChangeShapes Go.WideShapes Go.ChangeAt Go.Joins

/-- A block of 256 numbers. -/
def HA (w : World) (B : Nat) (h : Int → Int) : Prop := ∃ cs : Array Value, Blk w B 55 cs ∧ cs.size = 256 ∧ ∀ k : Nat, k < 256 → cs[k]? = some (.int .i64 (h k))
theorem HA.lt {w : World} {B : Nat} {h : Int → Int} (H : HA w B h) : B < w.heap.size := by obtain ⟨cs, h1, _⟩ := H; exact h1.lt
theorem HA.cell {w : World} {B : Nat} {h : Int → Int} (H : HA w B h) {k : Nat} (hk : k < 256) : w.cell? ⟨B, k, none⟩ = some (.int .i64 (h k)) := by
  obtain ⟨cs, h1, _, h3⟩ := H
  rw [h1.cell_ k]
  exact h3 k hk
theorem HA.frozen {w : World} {B : Nat} {h : Int → Int} (H : HA w B h) (k : Nat) : w.frozen? ⟨B, k, none⟩ = false := by obtain ⟨cs, h1, _⟩ := H; exact h1.frozen_ k
theorem HA.below {w w' : World} {B : Nat} {h : Int → Int} (H : HA w B h) (hb : Below w.heap.size w w') : HA w' B h := by obtain ⟨cs, h1, h2⟩ := H; exact ⟨cs, h1.below_ hb h1.lt, h2⟩
theorem HA.set {w : World} {B : Nat} {h : Int → Int} (H : HA w B h) {k : Nat} (hk : k < 256) (v : Int) {h' : Int → Int} (h1 : h' k = v) (h2 : ∀ j : Nat, j < 256 → j ≠ k → h' j = h j) : HA (w.setCell ⟨B, k, none⟩ (.int .i64 v)) B h' := by
  obtain ⟨cs, b1, b2, b3⟩ := H
  refine ⟨_, b1.set_ k (.int .i64 v), by simpa using b2, fun j hj => ?_⟩
  by_cases e : k = j
  · subst e; simp [b2, hj, h1]
  · rw [h2 j hj (Ne.symm e)]; simp [e, b3 j hj]
theorem HA.far {w : World} {B : Nat} {h : Int → Int} (H : HA w B h) {p : Addr} (hp : B ≠ p.block) (v : Value) : HA (w.setCell p v) B h := by obtain ⟨cs, h1, h2⟩ := H; exact ⟨cs, h1.far_ hp v, h2⟩

theorem HA.congr {w : World} {B : Nat} {h h' : Int → Int} (H : HA w B h) (e : ∀ k : Nat, k < 256 → h' k = h k) : HA w B h' := by obtain ⟨cs, b1, b2, b3⟩ := H; exact ⟨cs, b1, b2, fun k hk => by rw [e k hk]; exact b3 k hk⟩
theorem aft_mp1 (r : RI) (fr : Int) : (aftR r 1 fr).2.2 < 0 := by simp [aftR]
theorem stp_mp1 {r : RI} {fr : Int} {t : RI} {fl : List Int} {mp : Int} (h : stpR r 1 fr = (t, fl, mp, 0)) : mp < 0 := by
  unfold stpR at h
  repeat' split at h
  all_goals simp only [Prod.mk.injEq] at h
  all_goals first | (exfalso; omega) | (obtain ⟨_, _, h1, _⟩ := h; rw [← h1]; exact aft_mp1 r fr)

theorem zc_eq : Tryd.zeroCells55 = Array.replicate 256 (.int .i64 0) := by kernel_rfl
theorem zc_at {k : Nat} (hk : k < 256) : Tryd.zeroCells55[k]? = some (.int .i64 0) := by rw [zc_eq]; simp [hk]
theorem HA.zero {w : World} : HA (w.alloc (.cells Tryd.zeroCells55 55)) w.heap.size (fun _ => 0) := ⟨_, Blk.new_ rfl rfl, by rw [zc_eq]; simp, fun _ h => zc_at h⟩

set_option maxRecDepth 100000 in
set_option maxHeartbeats 16000000 in
theorem readinFrames_walk (n : Int) (A : Option Addr) (c : Nat) (nums : List Int) (w : World) (hwf : (Lit.int .i64 n).wf = true) (hs : Sl w (.int .i64) A nums) (hw : ∀ x ∈ nums, (Lit.int .i64 x).wf = true) (hl : nums.length ≤ maxLen) (hal : AL w) :
    Calls Tryd.prog 7 #[.int .i64 n, .slice A nums.length c] w fun e w' => e = .returned (.bool true) ∧ Below w.heap.size w w' := by
  have HAL := Lib.hid hal; have HS := Lib.hid hs
  unfold maxLen at hl
  clear hal hs hw hwf
  obtain ⟨g0, hg0⟩ : ∃ g, madW n = g := ⟨_, rfl⟩
  have HG0 : Hid (g0 = -1 ∨ (0 ≤ g0 ∧ g0 < 256)) := by show _ ∨ _; rw [← hg0]; exact madW_ok n
  have HMN := Lib.hid hg0
  clear hg0
  go_enter Tryd.func7, Tryd.ntmps7
  go_wp2_with fail
  refine (readinKnown_walk _ HAL.out).mono ?_
  rintro e w1 ⟨rfl, hb1⟩
  go_wp2_with fail
  refine (made_any n _).mono ?_
  rw [HMN.out]
  rintro e w2 ⟨rfl, hb2⟩
  have HB2 : Hid (Below w.heap.size w w2) := by show Below _ _ _; exact (by repeat' (first | with_reducible exact Below.refl _ _ | with_reducible assumption | with_reducible apply Below.drew | with_reducible apply below_drewN | with_reducible apply Below.alloc | with_reducible apply Below.setCell | (with_reducible refine Below.trans ?_ (Below.mono (by assumption) ?_)) | (simp; done) | (simp; omega) | omega | with_reducible apply le_size_alloc | with_reducible apply le_size_drewN | with_reducible apply le_size_drew | with_reducible apply le_size_setCell | with_reducible refine Nat.le_trans ?_ (Below.size (by assumption))))
  have zz := HB2.out.size
  clear hb1 hb2
  by_cases hg : 0 ≤ g0
  · obtain ⟨m, rfl⟩ : ∃ m : Nat, g0 = m := ⟨g0.toNat, by omega⟩
    have hm : m < 256 := by rcases HG0.out with h | h <;> omega
    have hmi : (m : Int) < 256 := by omega
    have hzs : m < Tryd.zeroCells55.size := by rw [zc_eq]; simpa using hm
    have hzc : Tryd.zeroCells55[m] = .int .i64 0 := by have := zc_at hm; rw [Array.getElem?_eq_getElem hzs] at this; exact Option.some.inj this
    go_wp2_with fail
    obtain ⟨V, hV⟩ : ∃ V, (w2.alloc (.cells #[.int .i64 1, .int .i64 (-1), .int .i64 m] 23)).alloc (.cells (Tryd.zeroCells55.setIfInBounds m (.int .i64 1)) 55) = V := ⟨_, rfl⟩
    have K6 : Hid (Blk V w2.heap.size 23 #[.int .i64 1, .int .i64 (-1), .int .i64 m]) := by show Blk _ _ _ _; rw [← hV]; exact (Blk.new_ rfl rfl).alloc_ _
    have H8 : Hid (HA V (w2.heap.size + 1) (hasF (1, -1, (m : Int)))) := by
      show HA _ _ _
      rw [← hV]
      refine ⟨_, Blk.new_ (by simp) rfl, by rw [zc_eq]; simp, fun k hk => ?_⟩
      rw [zc_eq]
      by_cases e : m = k
      · subst e; simp [hk, hasF, oneI]; try omega
      · simp [hk, e, hasF, oneI]; try omega
    have HI0 : Hid (InF (1, -1, (m : Int)) ∧ rkF (1, -1, (m : Int)) ≤ 5) := ⟨.inl ⟨rfl, rfl, .inr ⟨by omega, hmi⟩⟩, by simp [rkF]; try (split <;> omega)⟩
    have HB3 : Hid (Below w.heap.size w V) := by show Below _ _ _; rw [← hV]; exact (HB2.out.alloc zz _).alloc (by simp; omega) _
    rw [hV]
    clear hV hzc hzs hmi
    go_loopw [9, 10, 11, 12, 13, 14, 15, 16, 17, 18, 19, 20, 21, 22] (fun ev i _ _ _ _ _ _ _ _ _ _ _ _ wr => ∃ (k : Nat) (s f g : Int), ev = .int .i64 k ∧ i = .int .i64 k ∧ Hid (InF (s, f, g)) ∧ Hid (rkF (s, f, g) + k ≤ 5) ∧ Hid (Blk wr w2.heap.size 23 #[.int .i64 s, .int .i64 f, .int .i64 g]) ∧ Hid (HA wr (w2.heap.size + 1) (hasF (s, f, g))) ∧ Hid (Below w.heap.size w wr)) (fun _ i _ _ _ _ _ _ _ _ _ _ _ _ _ => 12 - (intOf i).toNat)
    case atStart => exact ⟨0, 1, -1, m, rfl, rfl, HI0.out.1, HI0.out.2, K6, H8, HB3⟩
    case round =>
      clear K6 H8 HI0 HB3
      obtain ⟨wo, rfl⟩ : ∃ wo : World, wo = wr := ⟨_, rfl⟩
      obtain ⟨k, s, f, g, rfl, rfl, HI, HR, HK, HH, HB⟩ := hrel
      have hk5 : k ≤ 5 := by have := HR.out; omega
      have hk12 : (k : Int) < 12 := by omega
      have hk6 : (k : Int) ≤ 5 := by omega
      have HCH := Lib.hid (chkF HI.out)
      have kl := HK.out.lt
      have hl8 := HH.out.lt
      have zr := HB.out.size
      have n8 : w2.heap.size + 1 ≠ w2.heap.size := by omega
      have HALR : Hid (AL wo) := HAL.out.ext HB.out
      have HSR : Hid (Sl wo (.int .i64) A nums) := HS.out.ext HB.out
      rcases stepF HI.out (atS nums k) with ⟨hp, hev⟩ | ⟨ev, fr, ⟨t0, t1, t2⟩, fl, mp, hp, hst, hfl, hev1, hmp, hin, hrk, hhas⟩
      · have HOV : Hid (oveR (s, f, g) = (true, 0)) := by show _ = _; unfold oveR; rw [if_pos (chkF HI.out), hev]; rfl
        have HP := Lib.hid hp
        clear hp hev
        go_wp2_with fail
        refine wp_region_chain2 [1, 0, 0, 1, 1, 0, 0, 0, 0, 0, 0, 0] [[], [], [], [], [], [], [], [], [], [], [], []] [.kn ?fapn0, .is ?fapn1, .is ?fapn2, .kn (.int .i64 (atS nums k)), .kn (.tuple #[.int .i64 0, .int .i64 0, .bool false]), .is ?fapn5, .is ?fapn6, .is ?fapn7, .is ?fapn8, .is ?fapn9, .is ?fapn10, .is ?fapn11] (by rfl) (by rfl) (by kernel_rfl) (by kernel_rfl) (by kernel_rfl) (by kernel_rfl) (by kernel_rfl) (by kernel_rfl) (lts_kn (lts_is (lts_is (lts_kn (lts_kn (lts_is (lts_is (lts_is (lts_is (lts_is (lts_is (lts_is lts_nil)))))))))))) (fun W0 hb0 hz0 => ?_)
        rotate_left 10
        rw [show lateIdx [1, 0, 0, 1, 1, 0, 0, 0, 0, 0, 0, 0] = [] from by rfl]
        have HALW : Hid (AL W0) := HALR.out.ext hb0
        have HSW : Hid (Sl W0 (.int .i64) A nums) := HSR.out.ext hb0
        have kW0 := HK.out.below_ hb0 kl
        have p0 : W0.cell? ⟨w2.heap.size, 0, none⟩ = some (.int .i64 s) := (kW0.cell_ 0).trans (by simp)
        have p1 : W0.cell? ⟨w2.heap.size, 1, none⟩ = some (.int .i64 f) := (kW0.cell_ 1).trans (by simp)
        have p2 : W0.cell? ⟨w2.heap.size, 2, none⟩ = some (.int .i64 g) := (kW0.cell_ 2).trans (by simp)
        have zW := kW0.lt
        refine chn_kn (stp_take (by rfl) ?yapn0) ?rapn0
        case yapn0 =>
          intro w hbw hd
          have r0 := cell_keep hbw p0 zW
          have r1 := cell_keep hbw p1 zW
          have r2 := cell_keep hbw p2 zW
          clear hd
          go_simp
          first | done | with_reducible rfl
        (try simp only [Act.put, List.setIfInBounds_toArray, List.set_cons_zero, List.set_cons_succ, List.nil_append, List.cons_append, Nat.reduceAdd])
        refine chn_is (stp_pure (by rfl) ?yapn1) ?rapn1
        case yapn1 =>
          intro w
          go_simp
          first | done | with_reducible rfl
        (try simp only [Act.put, List.setIfInBounds_toArray, List.set_cons_zero, List.set_cons_succ, List.nil_append, List.cons_append, Nat.reduceAdd])
        refine chn_is (stp_pure (by rfl) ?yapn2) ?rapn2
        case yapn2 =>
          intro w
          go_simp
          first | done | with_reducible rfl
        (try simp only [Act.put, List.setIfInBounds_toArray, List.set_cons_zero, List.set_cons_succ, List.nil_append, List.cons_append, Nat.reduceAdd])
        refine chn_kn ?sapn3 ?rapn3
        case sapn3 =>
          intro w hbw hd K Q' hK
          clear hd
          go_simp
          refine (At_any A c nums k _ (HSW.out.ext hbw) (by omega)).mono ?_
          rintro e y ⟨rfl, rfl⟩
          go_wp2_with fail
          refine hK.out (.int .i64 (atS nums k)) _ _ ?_ ?_ rfl
          · (simp only [Act.put, List.setIfInBounds_toArray, List.set_cons_zero, List.set_cons_succ, List.nil_append, List.cons_append, Nat.reduceAdd])
          · exact (by repeat' (first | with_reducible exact Below.refl _ _ | with_reducible assumption | with_reducible apply Below.drew | with_reducible apply below_drewN | with_reducible apply Below.alloc | with_reducible apply Below.setCell | (with_reducible refine Below.trans ?_ (Below.mono (by assumption) ?_)) | (simp; done) | (simp; omega) | omega | with_reducible apply le_size_alloc | with_reducible apply le_size_drewN | with_reducible apply le_size_drew | with_reducible apply le_size_setCell | with_reducible refine Nat.le_trans ?_ (Below.size (by assumption))))
        (try simp only [Act.put, List.setIfInBounds_toArray, List.set_cons_zero, List.set_cons_succ, List.nil_append, List.cons_append, Nat.reduceAdd])
        refine chn_kn ?sapn4 ?rapn4
        case sapn4 =>
          intro w hbw hd K Q' hK
          clear hd
          go_simp
          refine (pick_all s f g (atS nums k) _ (HALW.out.ext hbw) HCH.out).mono ?_
          unfold PckPost
          rw [HP.out]
          rintro e y ⟨rfl, hy⟩
          go_wp2_with fail
          refine hK.out (.tuple #[.int .i64 0, .int .i64 0, .bool false]) _ _ ?_ ?_ rfl
          · (simp only [Act.put, List.setIfInBounds_toArray, List.set_cons_zero, List.set_cons_succ, List.nil_append, List.cons_append, Nat.reduceAdd])
          · exact (by repeat' (first | with_reducible exact Below.refl _ _ | with_reducible assumption | with_reducible apply Below.drew | with_reducible apply below_drewN | with_reducible apply Below.alloc | with_reducible apply Below.setCell | (with_reducible refine Below.trans ?_ (Below.mono (by assumption) ?_)) | (simp; done) | (simp; omega) | omega | with_reducible apply le_size_alloc | with_reducible apply le_size_drewN | with_reducible apply le_size_drew | with_reducible apply le_size_setCell | with_reducible refine Nat.le_trans ?_ (Below.size (by assumption))))
        (try simp only [Act.put, List.setIfInBounds_toArray, List.set_cons_zero, List.set_cons_succ, List.nil_append, List.cons_append, Nat.reduceAdd])
        refine chn_is (stp_pure (by rfl) ?yapn5) ?rapn5
        case yapn5 =>
          intro w
          go_simp
          first | done | with_reducible rfl
        (try simp only [Act.put, List.setIfInBounds_toArray, List.set_cons_zero, List.set_cons_succ, List.nil_append, List.cons_append, Nat.reduceAdd])
        refine chn_is (stp_pure (by rfl) ?yapn6) ?rapn6
        case yapn6 =>
          intro w
          go_simp
          first | done | with_reducible rfl
        (try simp only [Act.put, List.setIfInBounds_toArray, List.set_cons_zero, List.set_cons_succ, List.nil_append, List.cons_append, Nat.reduceAdd])
        refine chn_is (stp_pure (by rfl) ?yapn7) ?rapn7
        case yapn7 =>
          intro w
          go_simp
          first | done | with_reducible rfl
        (try simp only [Act.put, List.setIfInBounds_toArray, List.set_cons_zero, List.set_cons_succ, List.nil_append, List.cons_append, Nat.reduceAdd])
        refine chn_is (stp_pure (by rfl) ?yapn8) ?rapn8
        case yapn8 =>
          intro w
          go_simp
          first | done | with_reducible rfl
        (try simp only [Act.put, List.setIfInBounds_toArray, List.set_cons_zero, List.set_cons_succ, List.nil_append, List.cons_append, Nat.reduceAdd])
        refine chn_is (stp_pure (by rfl) ?yapn9) ?rapn9
        case yapn9 =>
          intro w
          go_simp
          first | done | with_reducible rfl
        (try simp only [Act.put, List.setIfInBounds_toArray, List.set_cons_zero, List.set_cons_succ, List.nil_append, List.cons_append, Nat.reduceAdd])
        refine chn_is (stp_pure (by rfl) ?yapn10) ?rapn10
        case yapn10 =>
          intro w
          go_simp
          first | done | with_reducible rfl
        (try simp only [Act.put, List.setIfInBounds_toArray, List.set_cons_zero, List.set_cons_succ, List.nil_append, List.cons_append, Nat.reduceAdd])
        refine chn_is (stp_pure (by rfl) ?yapn11) ?rapn11
        case yapn11 =>
          intro w
          go_simp
          first | done | with_reducible rfl
        (try simp only [Act.put, List.setIfInBounds_toArray, List.set_cons_zero, List.set_cons_succ, List.nil_append, List.cons_append, Nat.reduceAdd])
        refine chn_end (fun wz lo hi hbz hd hR => ?_)
        have kW := kW0.below_ hbz zW
        have bx4 := hb0.trans (hbz.mono hb0.size)
        clear hd hR kW0 p0 p1 p2 HALW HSW zW hb0 hbz hz0
        refine late_none ?_
        obtain ⟨x4, rfl⟩ : ∃ x4 : World, x4 = wz := ⟨_, rfl⟩
        have q0 : x4.cell? ⟨w2.heap.size, 0, none⟩ = some (.int .i64 s) := (kW.cell_ 0).trans (by simp)
        have q1 : x4.cell? ⟨w2.heap.size, 1, none⟩ = some (.int .i64 f) := (kW.cell_ 1).trans (by simp)
        have q2 : x4.cell? ⟨w2.heap.size, 2, none⟩ = some (.int .i64 g) := (kW.cell_ 2).trans (by simp)
        clear kW
        go_wp2_with fail
        refine (Over_any s f g _ (HALR.out.ext bx4)).mono ?_
        rw [HOV.out]
        rintro e x5 ⟨rfl, hx5⟩
        have BF := HB.out.trans ((bx4.trans (hx5.mono bx4.size)).mono zr)
        clear hx5 bx4
        go_wp2_with fail
        go_ret
        exact ⟨rfl, BF⟩
      · have HP := Lib.hid hp; have HST := Lib.hid hst; have HFL := Lib.hid hfl; have HIN := Lib.hid hin; have HRK := Lib.hid hrk; have HHAS := Lib.hid hhas
        have HCT := Lib.hid (chkF hin)
        have HM1 : Hid (ev = 1 → mp < 0) := fun h => by subst h; exact stp_mp1 hst
        have HE1 := Lib.hid hev1; have HMP := Lib.hid hmp
        obtain ⟨l, hl_⟩ : ∃ l, (framR (t0, t1, t2)).1 = l := ⟨_, rfl⟩
        obtain ⟨hf0, hfl2, hfm⟩ := framF hin
        have HFR : Hid (framR (t0, t1, t2) = (l, 0)) := Prod.ext hl_ hf0
        have hll : l.length ≤ 2 := by rw [← hl_]; exact hfl2
        have HHL : Hid (∀ k : Int, 0 ≤ k → (if k ∈ l then 1 else 0) = hasF (t0, t1, t2) k) := by show ∀ _, _; rw [← hl_]; exact hfm
        have hfl1 : fl.length ≤ 1 := by rcases hfl with h | ⟨y, h, _⟩ <;> simp [h]
        clear hp hst hfl hin hrk hhas hev1 hmp hl_ hf0 hfl2 hfm
        go_wp2_with fail
        refine wp_region_chain2 [1, 0, 0, 1, 1, 0, 0, 0, 0, 0, 0, 0] [[], [], [], [], [], [], [], [], [], [], [], []] [.kn ?faqn0, .is ?faqn1, .is ?faqn2, .kn (.int .i64 (atS nums k)), .kn (.tuple #[.int .i64 ev, .int .i64 fr, .bool true]), .is ?faqn5, .is ?faqn6, .is ?faqn7, .is ?faqn8, .is ?faqn9, .is ?faqn10, .is ?faqn11] (by rfl) (by rfl) (by kernel_rfl) (by kernel_rfl) (by kernel_rfl) (by kernel_rfl) (by kernel_rfl) (by kernel_rfl) (lts_kn (lts_is (lts_is (lts_kn (lts_kn (lts_is (lts_is (lts_is (lts_is (lts_is (lts_is (lts_is lts_nil)))))))))))) (fun W0 hb0 hz0 => ?_)
        rotate_left 10
        rw [show lateIdx [1, 0, 0, 1, 1, 0, 0, 0, 0, 0, 0, 0] = [] from by rfl]
        have HALW : Hid (AL W0) := HALR.out.ext hb0
        have HSW : Hid (Sl W0 (.int .i64) A nums) := HSR.out.ext hb0
        have kW0 := HK.out.below_ hb0 kl
        have p0 : W0.cell? ⟨w2.heap.size, 0, none⟩ = some (.int .i64 s) := (kW0.cell_ 0).trans (by simp)
        have p1 : W0.cell? ⟨w2.heap.size, 1, none⟩ = some (.int .i64 f) := (kW0.cell_ 1).trans (by simp)
        have p2 : W0.cell? ⟨w2.heap.size, 2, none⟩ = some (.int .i64 g) := (kW0.cell_ 2).trans (by simp)
        have zW := kW0.lt
        refine chn_kn (stp_take (by rfl) ?yaqn0) ?raqn0
        case yaqn0 =>
          intro w hbw hd
          have r0 := cell_keep hbw p0 zW
          have r1 := cell_keep hbw p1 zW
          have r2 := cell_keep hbw p2 zW
          clear hd
          go_simp
          first | done | with_reducible rfl
        (try simp only [Act.put, List.setIfInBounds_toArray, List.set_cons_zero, List.set_cons_succ, List.nil_append, List.cons_append, Nat.reduceAdd])
        refine chn_is (stp_pure (by rfl) ?yaqn1) ?raqn1
        case yaqn1 =>
          intro w
          go_simp
          first | done | with_reducible rfl
        (try simp only [Act.put, List.setIfInBounds_toArray, List.set_cons_zero, List.set_cons_succ, List.nil_append, List.cons_append, Nat.reduceAdd])
        refine chn_is (stp_pure (by rfl) ?yaqn2) ?raqn2
        case yaqn2 =>
          intro w
          go_simp
          first | done | with_reducible rfl
        (try simp only [Act.put, List.setIfInBounds_toArray, List.set_cons_zero, List.set_cons_succ, List.nil_append, List.cons_append, Nat.reduceAdd])
        refine chn_kn ?saqn3 ?raqn3
        case saqn3 =>
          intro w hbw hd K Q' hK
          clear hd
          go_simp
          refine (At_any A c nums k _ (HSW.out.ext hbw) (by omega)).mono ?_
          rintro e y ⟨rfl, rfl⟩
          go_wp2_with fail
          refine hK.out (.int .i64 (atS nums k)) _ _ ?_ ?_ rfl
          · (simp only [Act.put, List.setIfInBounds_toArray, List.set_cons_zero, List.set_cons_succ, List.nil_append, List.cons_append, Nat.reduceAdd])
          · exact (by repeat' (first | with_reducible exact Below.refl _ _ | with_reducible assumption | with_reducible apply Below.drew | with_reducible apply below_drewN | with_reducible apply Below.alloc | with_reducible apply Below.setCell | (with_reducible refine Below.trans ?_ (Below.mono (by assumption) ?_)) | (simp; done) | (simp; omega) | omega | with_reducible apply le_size_alloc | with_reducible apply le_size_drewN | with_reducible apply le_size_drew | with_reducible apply le_size_setCell | with_reducible refine Nat.le_trans ?_ (Below.size (by assumption))))
        (try simp only [Act.put, List.setIfInBounds_toArray, List.set_cons_zero, List.set_cons_succ, List.nil_append, List.cons_append, Nat.reduceAdd])
        refine chn_kn ?saqn4 ?raqn4
        case saqn4 =>
          intro w hbw hd K Q' hK
          clear hd
          go_simp
          refine (pick_all s f g (atS nums k) _ (HALW.out.ext hbw) HCH.out).mono ?_
          unfold PckPost
          rw [HP.out]
          rintro e y ⟨rfl, hy⟩
          go_wp2_with fail
          refine hK.out (.tuple #[.int .i64 ev, .int .i64 fr, .bool true]) _ _ ?_ ?_ rfl
          · (simp only [Act.put, List.setIfInBounds_toArray, List.set_cons_zero, List.set_cons_succ, List.nil_append, List.cons_append, Nat.reduceAdd])
          · exact (by repeat' (first | with_reducible exact Below.refl _ _ | with_reducible assumption | with_reducible apply Below.drew | with_reducible apply below_drewN | with_reducible apply Below.alloc | with_reducible apply Below.setCell | (with_reducible refine Below.trans ?_ (Below.mono (by assumption) ?_)) | (simp; done) | (simp; omega) | omega | with_reducible apply le_size_alloc | with_reducible apply le_size_drewN | with_reducible apply le_size_drew | with_reducible apply le_size_setCell | with_reducible refine Nat.le_trans ?_ (Below.size (by assumption))))
        (try simp only [Act.put, List.setIfInBounds_toArray, List.set_cons_zero, List.set_cons_succ, List.nil_append, List.cons_append, Nat.reduceAdd])
        refine chn_is (stp_pure (by rfl) ?yaqn5) ?raqn5
        case yaqn5 =>
          intro w
          go_simp
          first | done | with_reducible rfl
        (try simp only [Act.put, List.setIfInBounds_toArray, List.set_cons_zero, List.set_cons_succ, List.nil_append, List.cons_append, Nat.reduceAdd])
        refine chn_is (stp_pure (by rfl) ?yaqn6) ?raqn6
        case yaqn6 =>
          intro w
          go_simp
          first | done | with_reducible rfl
        (try simp only [Act.put, List.setIfInBounds_toArray, List.set_cons_zero, List.set_cons_succ, List.nil_append, List.cons_append, Nat.reduceAdd])
        refine chn_is (stp_pure (by rfl) ?yaqn7) ?raqn7
        case yaqn7 =>
          intro w
          go_simp
          first | done | with_reducible rfl
        (try simp only [Act.put, List.setIfInBounds_toArray, List.set_cons_zero, List.set_cons_succ, List.nil_append, List.cons_append, Nat.reduceAdd])
        refine chn_is (stp_pure (by rfl) ?yaqn8) ?raqn8
        case yaqn8 =>
          intro w
          go_simp
          first | done | with_reducible rfl
        (try simp only [Act.put, List.setIfInBounds_toArray, List.set_cons_zero, List.set_cons_succ, List.nil_append, List.cons_append, Nat.reduceAdd])
        refine chn_is (stp_pure (by rfl) ?yaqn9) ?raqn9
        case yaqn9 =>
          intro w
          go_simp
          first | done | with_reducible rfl
        (try simp only [Act.put, List.setIfInBounds_toArray, List.set_cons_zero, List.set_cons_succ, List.nil_append, List.cons_append, Nat.reduceAdd])
        refine chn_is (stp_pure (by rfl) ?yaqn10) ?raqn10
        case yaqn10 =>
          intro w
          go_simp
          first | done | with_reducible rfl
        (try simp only [Act.put, List.setIfInBounds_toArray, List.set_cons_zero, List.set_cons_succ, List.nil_append, List.cons_append, Nat.reduceAdd])
        refine chn_is (stp_pure (by rfl) ?yaqn11) ?raqn11
        case yaqn11 =>
          intro w
          go_simp
          first | done | with_reducible rfl
        (try simp only [Act.put, List.setIfInBounds_toArray, List.set_cons_zero, List.set_cons_succ, List.nil_append, List.cons_append, Nat.reduceAdd])
        refine chn_end (fun wz lo hi hbz hd hR => ?_)
        have kW := kW0.below_ hbz zW
        have bx4 := hb0.trans (hbz.mono hb0.size)
        clear hd hR kW0 p0 p1 p2 HALW HSW zW hb0 hbz hz0
        refine late_none ?_
        obtain ⟨x4, rfl⟩ : ∃ x4 : World, x4 = wz := ⟨_, rfl⟩
        have K4 := Lib.hid kW
        have H4 := Lib.hid (HH.out.below bx4)
        have q0 : x4.cell? ⟨w2.heap.size, 0, none⟩ = some (.int .i64 s) := (kW.cell_ 0).trans (by simp)
        have q1 : x4.cell? ⟨w2.heap.size, 1, none⟩ = some (.int .i64 f) := (kW.cell_ 1).trans (by simp)
        have q2 : x4.cell? ⟨w2.heap.size, 2, none⟩ = some (.int .i64 g) := (kW.cell_ 2).trans (by simp)
        have B4 : Hid (Below w.heap.size w x4) := HB.out.trans (bx4.mono zr)
        have kl4 := kW.lt
        have hl4 := H4.out.lt
        clear kW
        go_wp2_with fail
        refine (Step_any s f g ev fr _ (HALR.out.ext bx4)).mono ?_
        unfold StpPost
        rw [HST.out]
        rintro e x5 ⟨A5, c5, rfl, hi5, hx5⟩
        clear q0 q1 q2
        have z45 := hx5.size
        have K5 := Lib.hid (K4.out.below_ hx5 K4.out.lt)
        have H5 := Lib.hid (H4.out.below hx5)
        have B5 := Lib.hid (B4.out.trans (hx5.mono B4.out.size))
        have HI5 := Lib.hid hi5
        have HAL5 : Hid (AL x5) := (HALR.out.ext bx4).ext hx5
        clear hi5 hx5 bx4 K4 H4 B4
        go_wp2_with fail
        refine (Check_any t0 t1 t2 _ HCT.out).mono ?_
        rintro e x6 ⟨rfl, hx6⟩
        have hx6' : Below x5.heap.size x5 x6 := box_below hx6
        have K6 := Lib.hid (K5.out.below_ hx6' K5.out.lt)
        have H6 := Lib.hid (H5.out.below hx6')
        have B6 := Lib.hid (B5.out.trans (hx6'.mono B5.out.size))
        have I6 : Hid (IWn x6 x4.heap.size A5 c5 fl) := HI5.out.ext hx6'
        have KT : Hid (Blk x6 x5.heap.size 23 #[.int .i64 t0, .int .i64 t1, .int .i64 t2]) := Blk.below_ (Blk.new_ rfl rfl) hx6 (by simp)
        clear hx6 hx6' K5 H5 B5 HI5
        by_cases he : ev = 1
        · have hfr := HE1.out he
          obtain ⟨F, rfl⟩ : ∃ F : Nat, fr = F := ⟨fr.toNat, by have := hfr.1; omega⟩
          have hF : F < 256 := by have := hfr.2; omega
          have hF3 : (F : Int) < 256 := by omega
          have hm0 := HM1.out he
          have heb : (ev == 1) = true := by simpa using he
          obtain ⟨v, hv, hv0, hv1⟩ : ∃ v : Int, hasF (s, f, g) F = v ∧ 0 ≤ v ∧ v ≤ 2 := by
            refine ⟨_, rfl, ?_⟩
            simp only [hasF, oneI]
            constructor <;> (repeat' split) <;> omega
          have q : x6.cell? ⟨w2.heap.size + 1, F, none⟩ = some (.int .i64 v) := (H6.out.cell hF).trans (by rw [hv])
          have qf := H6.out.frozen F
          obtain ⟨U, hU⟩ : ∃ U, x6.setCell ⟨w2.heap.size + 1, F, none⟩ (.int .i64 (v + 1)) = U := ⟨_, rfl⟩
          have HU : Hid (HA U (w2.heap.size + 1) (fun q => hasF (s, f, g) q + (if ev = 1 then oneI q F else 0) - frdF (fl.take 0) q)) := by
            show HA _ _ _
            rw [← hU]
            refine H6.out.set hF (v + 1) ?_ ?_
            · rw [← hv, if_pos he]; simp [frdF, oneI]
            · intro y _ hy; rw [if_pos he]; simp [frdF, oneI, show ¬ (y : Int) = F by omega]
          have KU : Hid (Blk U w2.heap.size 23 #[.int .i64 s, .int .i64 f, .int .i64 g]) := by show Blk _ _ _ _; rw [← hU]; exact K6.out.far_ (by simp) _
          have KT' : Hid (Blk U x5.heap.size 23 #[.int .i64 t0, .int .i64 t1, .int .i64 t2]) := by show Blk _ _ _ _; rw [← hU]; exact KT.out.far_ (by simp; omega) _
          have IU : Hid (IWn U x4.heap.size A5 c5 fl) := by show IWn _ _ _ _ _; rw [← hU]; exact I6.out.far F _ (by omega)
          have BU : Hid (Below w.heap.size w U) := by show Below _ _ _; rw [← hU]; exact B6.out.setCell (p := ⟨w2.heap.size + 1, F, none⟩) (show w.heap.size ≤ w2.heap.size + 1 by omega) _
          have HE := Lib.hid he
          clear hv KT K6 H6 I6 B6 hfr he
          obtain ⟨fr, hfr⟩ : ∃ fr : Int, fr = F := ⟨_, rfl⟩
          rw [← hfr] at HU HST HHAS HP HE1
          clear hfr
          have KT := KT'
          clear KT'
          go_wp2_with fail
          (try rw [hU])
          clear hU q qf heb
          have z5 := KT.out.lt
          obtain ⟨wu, rfl⟩ : ∃ wu : World, wu = U := ⟨_, rfl⟩
          go_loopw [18] (fun i wr => ∃ j : Nat, j ≤ fl.length ∧ i = .int .i64 j ∧ Hid (Blk wr w2.heap.size 23 #[.int .i64 s, .int .i64 f, .int .i64 g]) ∧ Hid (Blk wr x5.heap.size 23 #[.int .i64 t0, .int .i64 t1, .int .i64 t2]) ∧ Hid (IWn wr x4.heap.size A5 c5 fl) ∧ Hid (HA wr (w2.heap.size + 1) (fun q => hasF (s, f, g) q + (if ev = 1 then oneI q fr else 0) - frdF (fl.take j) q)) ∧ Hid (Below w.heap.size w wr)) (fun i _ => fl.length - (intOf i).toNat)
          case atStart => exact ⟨0, Nat.zero_le _, rfl, KU, KT, IU, HU, BU⟩
          case round =>
            obtain ⟨wi, rfl⟩ : ∃ wi : World, wi = wr := ⟨_, rfl⟩
            clear KU KT IU HU BU
            obtain ⟨j, hj, rfl, KW, KT, IU, HU, BW⟩ := hrel
            by_cases hlt : j < fl.length
            · obtain ⟨bL, oL, x, rfl, hbl, hx, hcx⟩ := IU.out.1.1.at_ hlt
              have h1 : j = 0 ∧ fl = [x] ∧ frI x := by
                rcases HFL.out with h | ⟨y, h, h'⟩
                · rw [h] at hlt; simp at hlt
                · rw [h] at hlt hx; obtain rfl : j = 0 := by simpa using hlt
                  obtain rfl : y = x := by simpa using hx
                  exact ⟨rfl, h, h'⟩
              obtain ⟨j0, HFX, hX0, hX1⟩ : j = 0 ∧ Hid (fl = [x]) ∧ 0 ≤ x ∧ x < 256 := ⟨h1.1, h1.2.1, h1.2.2⟩
              obtain ⟨X, rfl⟩ : ∃ X : Nat, x = X := ⟨x.toNat, by omega⟩
              have hX : X < 256 := by omega
              have hX3 : ¬ (X : Int) ≥ 256 := by omega
              have i1 : (j : Int) < fl.length := by omega
              obtain ⟨v, hv, hv0, hv1⟩ : ∃ v : Int, hasF (s, f, g) X + (if ev = 1 then oneI X fr else 0) - frdF (fl.take j) X = v ∧ 0 ≤ v ∧ v ≤ 3 := by
                refine ⟨_, rfl, ?_⟩
                subst j0
                simp only [List.take_zero, frdF, hasF, oneI]
                constructor <;> (repeat' split) <;> omega
              have q : wi.cell? ⟨w2.heap.size + 1, X, none⟩ = some (.int .i64 v) := (HU.out.cell hX).trans (by rw [hv])
              have qf := HU.out.frozen X
              have HV : Hid (HA (wi.setCell ⟨w2.heap.size + 1, X, none⟩ (.int .i64 (v - 1))) (w2.heap.size + 1) (fun q => hasF (s, f, g) q + (if ev = 1 then oneI q fr else 0) - frdF (fl.take (j + 1)) q)) := by
                refine HU.out.set hX (v - 1) ?_ ?_
                · rw [← hv]; subst j0; rw [HFX.out]; simp [frdF, oneI]
                · intro y _ hy; subst j0; rw [HFX.out]; simp [frdF, oneI, show ¬ (y : Int) = X by omega]
              have J0 := Lib.hid j0
              clear hv h1 hx j0
              have hbl2 : bL < wi.heap.size := hbl
              have nB : w2.heap.size + 1 ≠ x5.heap.size := by omega
              go_wp2_with fail
              go_roundw
              case rel =>
                refine ⟨j + 1, by omega, by go_num, KW.out.far_ (by simp) _, KT.out.far_ (by simp; omega) _, IU.out.far X _ (by omega), HV.out, BW.out.setCell (p := ⟨w2.heap.size + 1, X, none⟩) (show w.heap.size ≤ w2.heap.size + 1 by omega) _⟩
              case measure => simp [intOf]; omega
            · obtain rfl : j = fl.length := by omega
              have HT : Hid (HA wi (w2.heap.size + 1) (hasF (t0, t1, t2))) := HU.out.congr fun q hq => by have := HHAS.out q (by omega); rw [List.take_length]; exact this.symm
              clear HU IU hlt
              have u0 : wi.cell? ⟨x5.heap.size, 0, none⟩ = some (.int .i64 t0) := (KT.out.cell_ 0).trans (by simp)
              have u1 : wi.cell? ⟨x5.heap.size, 1, none⟩ = some (.int .i64 t1) := (KT.out.cell_ 1).trans (by simp)
              have u2 : wi.cell? ⟨x5.heap.size, 2, none⟩ = some (.int .i64 t2) := (KT.out.cell_ 2).trans (by simp)
              have v0 : wi.cell? ⟨w2.heap.size, 0, none⟩ = some (.int .i64 s) := (KW.out.cell_ 0).trans (by simp)
              have v1 : wi.cell? ⟨w2.heap.size, 1, none⟩ = some (.int .i64 f) := (KW.out.cell_ 1).trans (by simp)
              have v2 : wi.cell? ⟨w2.heap.size, 2, none⟩ = some (.int .i64 g) := (KW.out.cell_ 2).trans (by simp)
              have f0_ := KW.out.frozen_ 0
              have f1_ := KW.out.frozen_ 1
              have f2_ := KW.out.frozen_ 2
              go_wp2_with fail
              obtain ⟨U, hU⟩ : ∃ U, ((wi.setCell ⟨w2.heap.size, 0, none⟩ (.int .i64 t0)).setCell ⟨w2.heap.size, 1, none⟩ (.int .i64 t1)).setCell ⟨w2.heap.size, 2, none⟩ (.int .i64 t2) = U := ⟨_, rfl⟩
              have KU : Hid (Blk U w2.heap.size 23 #[.int .i64 t0, .int .i64 t1, .int .i64 t2]) := by show Blk _ _ _ _; rw [← hU]; simpa using ((KW.out.set_ 0 (.int .i64 t0)).set_ 1 (.int .i64 t1)).set_ 2 (.int .i64 t2)
              have HU : Hid (HA U (w2.heap.size + 1) (hasF (t0, t1, t2))) := by show HA _ _ _; rw [← hU]; exact ((HT.out.far (p := ⟨w2.heap.size, 0, none⟩) n8 _).far (p := ⟨w2.heap.size, 1, none⟩) n8 _).far (p := ⟨w2.heap.size, 2, none⟩) n8 _
              have BU : Hid (Below w.heap.size w U) := by show Below _ _ _; rw [← hU]; exact ((BW.out.setCell (p := ⟨w2.heap.size, 0, none⟩) zz _).setCell (p := ⟨w2.heap.size, 1, none⟩) zz _).setCell (p := ⟨w2.heap.size, 2, none⟩) zz _
              rw [hU]
              clear hU KW KT HT BW u0 u1 u2 v0 v1 v2 f0_ f1_ f2_
              refine (Frames_any t0 t1 t2 _).mono ?_
              unfold LsPost
              rw [HFR.out]
              rintro e x7 ⟨A7, c7, rfl, hi7, hx7⟩
              have HI7 := Lib.hid hi7
              have K7 := Lib.hid (KU.out.below_ hx7 KU.out.lt)
              have H7 := Lib.hid (HU.out.below hx7)
              have B7 := Lib.hid (BU.out.trans (hx7.mono BU.out.size))
              clear hi7 hx7 KU HU BU
              go_wp2_with fail
              go_loopw [21, 22] (fun i _ wr => ∃ j : Nat, j ≤ 256 ∧ i = .int .i64 j ∧ x7 = wr) (fun i _ _ => 256 - (intOf i).toNat)
              case atStart => exact ⟨0, by omega, rfl, rfl⟩
              case round =>
                obtain ⟨j, hj, rfl, rfl⟩ := hrel
                by_cases hlt : j < 256
                · have i1 : (j : Int) < 256 := by omega
                  have q : x7.cell? ⟨w2.heap.size + 1, j, none⟩ = some (.int .i64 (hasF (t0, t1, t2) j)) := H7.out.cell hlt
                  have hq := HHL.out j (by omega)
                  by_cases hm : (j : Int) ∈ l
                  · rw [if_pos hm] at hq
                    rw [← hq] at q
                    clear hq
                    go_wp2_with fail
                    refine (Has_any A7 c7 l j _ HI7.out.1 (by omega)).mono ?_
                    rw [decide_eq_true hm]
                    rintro e y ⟨rfl, rfl⟩
                    clear hm
                    go_wp2_with fail
                    go_roundw
                    case rel => exact ⟨j + 1, by omega, by go_num, by first | rfl | trivial⟩
                    case measure => simp [intOf]; omega
                  · rw [if_neg hm] at hq
                    rw [← hq] at q
                    clear hq
                    go_wp2_with fail
                    refine (Has_any A7 c7 l j _ HI7.out.1 (by omega)).mono ?_
                    rw [decide_eq_false hm]
                    rintro e y ⟨rfl, rfl⟩
                    clear hm
                    go_wp2_with fail
                    go_roundw
                    case rel => exact ⟨j + 1, by omega, by go_num, by first | rfl | trivial⟩
                    case measure => simp [intOf]; omega
                · obtain rfl : j = 256 := by omega
                  go_wp2_with fail
                  go_roundw
                  case rel => exact ⟨k + 1, t0, t1, t2, by go_num, by go_num, HIN.out, by show _ ≤ _; have := HRK.out; have := HR.out; omega, K7.out, H7.out, B7.out⟩
                  case measure => simp [intOf]; omega
        · have heb : (ev == 1) = false := by simpa using he
          obtain ⟨U, rfl⟩ : ∃ U : World, U = x6 := ⟨_, rfl⟩
          have HU : Hid (HA U (w2.heap.size + 1) (fun q => hasF (s, f, g) q + (if ev = 1 then oneI q fr else 0) - frdF (fl.take 0) q)) := H6.out.congr fun q _ => by rw [if_neg he]; simp [frdF]
          have KU := K6; have IU := I6; have BU := B6
          have HE := Lib.hid he
          clear K6 H6 I6 B6 he
          go_wp2_with fail
          clear heb
          have z5 := KT.out.lt
          obtain ⟨wu, rfl⟩ : ∃ wu : World, wu = U := ⟨_, rfl⟩
          go_loopw [18] (fun i wr => ∃ j : Nat, j ≤ fl.length ∧ i = .int .i64 j ∧ Hid (Blk wr w2.heap.size 23 #[.int .i64 s, .int .i64 f, .int .i64 g]) ∧ Hid (Blk wr x5.heap.size 23 #[.int .i64 t0, .int .i64 t1, .int .i64 t2]) ∧ Hid (IWn wr x4.heap.size A5 c5 fl) ∧ Hid (HA wr (w2.heap.size + 1) (fun q => hasF (s, f, g) q + (if ev = 1 then oneI q fr else 0) - frdF (fl.take j) q)) ∧ Hid (Below w.heap.size w wr)) (fun i _ => fl.length - (intOf i).toNat)
          case atStart => exact ⟨0, Nat.zero_le _, rfl, KU, KT, IU, HU, BU⟩
          case round =>
            obtain ⟨wi, rfl⟩ : ∃ wi : World, wi = wr := ⟨_, rfl⟩
            clear KU KT IU HU BU
            obtain ⟨j, hj, rfl, KW, KT, IU, HU, BW⟩ := hrel
            by_cases hlt : j < fl.length
            · obtain ⟨bL, oL, x, rfl, hbl, hx, hcx⟩ := IU.out.1.1.at_ hlt
              have h1 : j = 0 ∧ fl = [x] ∧ frI x := by
                rcases HFL.out with h | ⟨y, h, h'⟩
                · rw [h] at hlt; simp at hlt
                · rw [h] at hlt hx; obtain rfl : j = 0 := by simpa using hlt
                  obtain rfl : y = x := by simpa using hx
                  exact ⟨rfl, h, h'⟩
              obtain ⟨j0, HFX, hX0, hX1⟩ : j = 0 ∧ Hid (fl = [x]) ∧ 0 ≤ x ∧ x < 256 := ⟨h1.1, h1.2.1, h1.2.2⟩
              obtain ⟨X, rfl⟩ : ∃ X : Nat, x = X := ⟨x.toNat, by omega⟩
              have hX : X < 256 := by omega
              have hX3 : ¬ (X : Int) ≥ 256 := by omega
              have i1 : (j : Int) < fl.length := by omega
              obtain ⟨v, hv, hv0, hv1⟩ : ∃ v : Int, hasF (s, f, g) X + (if ev = 1 then oneI X fr else 0) - frdF (fl.take j) X = v ∧ 0 ≤ v ∧ v ≤ 3 := by
                refine ⟨_, rfl, ?_⟩
                subst j0
                simp only [List.take_zero, frdF, hasF, oneI]
                constructor <;> (repeat' split) <;> omega
              have q : wi.cell? ⟨w2.heap.size + 1, X, none⟩ = some (.int .i64 v) := (HU.out.cell hX).trans (by rw [hv])
              have qf := HU.out.frozen X
              have HV : Hid (HA (wi.setCell ⟨w2.heap.size + 1, X, none⟩ (.int .i64 (v - 1))) (w2.heap.size + 1) (fun q => hasF (s, f, g) q + (if ev = 1 then oneI q fr else 0) - frdF (fl.take (j + 1)) q)) := by
                refine HU.out.set hX (v - 1) ?_ ?_
                · rw [← hv]; subst j0; rw [HFX.out]; simp [frdF, oneI]
                · intro y _ hy; subst j0; rw [HFX.out]; simp [frdF, oneI, show ¬ (y : Int) = X by omega]
              have J0 := Lib.hid j0
              clear hv h1 hx j0
              have hbl2 : bL < wi.heap.size := hbl
              have nB : w2.heap.size + 1 ≠ x5.heap.size := by omega
              go_wp2_with fail
              go_roundw
              case rel =>
                refine ⟨j + 1, by omega, by go_num, KW.out.far_ (by simp) _, KT.out.far_ (by simp; omega) _, IU.out.far X _ (by omega), HV.out, BW.out.setCell (p := ⟨w2.heap.size + 1, X, none⟩) (show w.heap.size ≤ w2.heap.size + 1 by omega) _⟩
              case measure => simp [intOf]; omega
            · obtain rfl : j = fl.length := by omega
              have HT : Hid (HA wi (w2.heap.size + 1) (hasF (t0, t1, t2))) := HU.out.congr fun q hq => by have := HHAS.out q (by omega); rw [List.take_length]; exact this.symm
              clear HU IU hlt
              by_cases hm0 : mp < 0
              · have u0 : wi.cell? ⟨x5.heap.size, 0, none⟩ = some (.int .i64 t0) := (KT.out.cell_ 0).trans (by simp)
                have u1 : wi.cell? ⟨x5.heap.size, 1, none⟩ = some (.int .i64 t1) := (KT.out.cell_ 1).trans (by simp)
                have u2 : wi.cell? ⟨x5.heap.size, 2, none⟩ = some (.int .i64 t2) := (KT.out.cell_ 2).trans (by simp)
                have v0 : wi.cell? ⟨w2.heap.size, 0, none⟩ = some (.int .i64 s) := (KW.out.cell_ 0).trans (by simp)
                have v1 : wi.cell? ⟨w2.heap.size, 1, none⟩ = some (.int .i64 f) := (KW.out.cell_ 1).trans (by simp)
                have v2 : wi.cell? ⟨w2.heap.size, 2, none⟩ = some (.int .i64 g) := (KW.out.cell_ 2).trans (by simp)
                have f0_ := KW.out.frozen_ 0
                have f1_ := KW.out.frozen_ 1
                have f2_ := KW.out.frozen_ 2
                go_wp2_with fail
                obtain ⟨U, hU⟩ : ∃ U, ((wi.setCell ⟨w2.heap.size, 0, none⟩ (.int .i64 t0)).setCell ⟨w2.heap.size, 1, none⟩ (.int .i64 t1)).setCell ⟨w2.heap.size, 2, none⟩ (.int .i64 t2) = U := ⟨_, rfl⟩
                have KU : Hid (Blk U w2.heap.size 23 #[.int .i64 t0, .int .i64 t1, .int .i64 t2]) := by show Blk _ _ _ _; rw [← hU]; simpa using ((KW.out.set_ 0 (.int .i64 t0)).set_ 1 (.int .i64 t1)).set_ 2 (.int .i64 t2)
                have HU : Hid (HA U (w2.heap.size + 1) (hasF (t0, t1, t2))) := by show HA _ _ _; rw [← hU]; exact ((HT.out.far (p := ⟨w2.heap.size, 0, none⟩) n8 _).far (p := ⟨w2.heap.size, 1, none⟩) n8 _).far (p := ⟨w2.heap.size, 2, none⟩) n8 _
                have BU : Hid (Below w.heap.size w U) := by show Below _ _ _; rw [← hU]; exact ((BW.out.setCell (p := ⟨w2.heap.size, 0, none⟩) zz _).setCell (p := ⟨w2.heap.size, 1, none⟩) zz _).setCell (p := ⟨w2.heap.size, 2, none⟩) zz _
                rw [hU]
                clear hU KW KT HT BW u0 u1 u2 v0 v1 v2 f0_ f1_ f2_
                refine (Frames_any t0 t1 t2 _).mono ?_
                unfold LsPost
                rw [HFR.out]
                rintro e x7 ⟨A7, c7, rfl, hi7, hx7⟩
                have HI7 := Lib.hid hi7
                have K7 := Lib.hid (KU.out.below_ hx7 KU.out.lt)
                have H7 := Lib.hid (HU.out.below hx7)
                have B7 := Lib.hid (BU.out.trans (hx7.mono BU.out.size))
                clear hi7 hx7 KU HU BU
                go_wp2_with fail
                go_loopw [21, 22] (fun i _ wr => ∃ j : Nat, j ≤ 256 ∧ i = .int .i64 j ∧ x7 = wr) (fun i _ _ => 256 - (intOf i).toNat)
                case atStart => exact ⟨0, by omega, rfl, rfl⟩
                case round =>
                  obtain ⟨j, hj, rfl, rfl⟩ := hrel
                  by_cases hlt : j < 256
                  · have i1 : (j : Int) < 256 := by omega
                    have q : x7.cell? ⟨w2.heap.size + 1, j, none⟩ = some (.int .i64 (hasF (t0, t1, t2) j)) := H7.out.cell hlt
                    have hq := HHL.out j (by omega)
                    by_cases hm : (j : Int) ∈ l
                    · rw [if_pos hm] at hq
                      rw [← hq] at q
                      clear hq
                      go_wp2_with fail
                      refine (Has_any A7 c7 l j _ HI7.out.1 (by omega)).mono ?_
                      rw [decide_eq_true hm]
                      rintro e y ⟨rfl, rfl⟩
                      clear hm
                      go_wp2_with fail
                      go_roundw
                      case rel => exact ⟨j + 1, by omega, by go_num, by first | rfl | trivial⟩
                      case measure => simp [intOf]; omega
                    · rw [if_neg hm] at hq
                      rw [← hq] at q
                      clear hq
                      go_wp2_with fail
                      refine (Has_any A7 c7 l j _ HI7.out.1 (by omega)).mono ?_
                      rw [decide_eq_false hm]
                      rintro e y ⟨rfl, rfl⟩
                      clear hm
                      go_wp2_with fail
                      go_roundw
                      case rel => exact ⟨j + 1, by omega, by go_num, by first | rfl | trivial⟩
                      case measure => simp [intOf]; omega
                  · obtain rfl : j = 256 := by omega
                    go_wp2_with fail
                    go_roundw
                    case rel => exact ⟨k + 1, t0, t1, t2, by go_num, by go_num, HIN.out, by show _ ≤ _; have := HRK.out; have := HR.out; omega, K7.out, H7.out, B7.out⟩
                    case measure => simp [intOf]; omega
              · obtain rfl : t1 = mp := (HMP.out.resolve_left hm0).symm
                have hm1 : 0 ≤ t1 := by omega
                have u0 : wi.cell? ⟨x5.heap.size, 0, none⟩ = some (.int .i64 t0) := (KT.out.cell_ 0).trans (by simp)
                have u1 : wi.cell? ⟨x5.heap.size, 1, none⟩ = some (.int .i64 t1) := (KT.out.cell_ 1).trans (by simp)
                have u2 : wi.cell? ⟨x5.heap.size, 2, none⟩ = some (.int .i64 t2) := (KT.out.cell_ 2).trans (by simp)
                have v0 : wi.cell? ⟨w2.heap.size, 0, none⟩ = some (.int .i64 s) := (KW.out.cell_ 0).trans (by simp)
                have v1 : wi.cell? ⟨w2.heap.size, 1, none⟩ = some (.int .i64 f) := (KW.out.cell_ 1).trans (by simp)
                have v2 : wi.cell? ⟨w2.heap.size, 2, none⟩ = some (.int .i64 g) := (KW.out.cell_ 2).trans (by simp)
                have f0_ := KW.out.frozen_ 0
                have f1_ := KW.out.frozen_ 1
                have f2_ := KW.out.frozen_ 2
                go_wp2_with fail
                obtain ⟨U, hU⟩ : ∃ U, ((wi.setCell ⟨w2.heap.size, 0, none⟩ (.int .i64 t0)).setCell ⟨w2.heap.size, 1, none⟩ (.int .i64 t1)).setCell ⟨w2.heap.size, 2, none⟩ (.int .i64 t2) = U := ⟨_, rfl⟩
                have KU : Hid (Blk U w2.heap.size 23 #[.int .i64 t0, .int .i64 t1, .int .i64 t2]) := by show Blk _ _ _ _; rw [← hU]; simpa using ((KW.out.set_ 0 (.int .i64 t0)).set_ 1 (.int .i64 t1)).set_ 2 (.int .i64 t2)
                have HU : Hid (HA U (w2.heap.size + 1) (hasF (t0, t1, t2))) := by show HA _ _ _; rw [← hU]; exact ((HT.out.far (p := ⟨w2.heap.size, 0, none⟩) n8 _).far (p := ⟨w2.heap.size, 1, none⟩) n8 _).far (p := ⟨w2.heap.size, 2, none⟩) n8 _
                have BU : Hid (Below w.heap.size w U) := by show Below _ _ _; rw [← hU]; exact ((BW.out.setCell (p := ⟨w2.heap.size, 0, none⟩) zz _).setCell (p := ⟨w2.heap.size, 1, none⟩) zz _).setCell (p := ⟨w2.heap.size, 2, none⟩) zz _
                rw [hU]
                clear hU KW KT HT BW u0 u1 u2 v0 v1 v2 f0_ f1_ f2_
                refine (Frames_any t0 t1 t2 _).mono ?_
                unfold LsPost
                rw [HFR.out]
                rintro e x7 ⟨A7, c7, rfl, hi7, hx7⟩
                have HI7 := Lib.hid hi7
                have K7 := Lib.hid (KU.out.below_ hx7 KU.out.lt)
                have H7 := Lib.hid (HU.out.below hx7)
                have B7 := Lib.hid (BU.out.trans (hx7.mono BU.out.size))
                clear hi7 hx7 KU HU BU
                go_wp2_with fail
                go_loopw [21, 22] (fun i _ wr => ∃ j : Nat, j ≤ 256 ∧ i = .int .i64 j ∧ x7 = wr) (fun i _ _ => 256 - (intOf i).toNat)
                case atStart => exact ⟨0, by omega, rfl, rfl⟩
                case round =>
                  obtain ⟨j, hj, rfl, rfl⟩ := hrel
                  by_cases hlt : j < 256
                  · have i1 : (j : Int) < 256 := by omega
                    have q : x7.cell? ⟨w2.heap.size + 1, j, none⟩ = some (.int .i64 (hasF (t0, t1, t2) j)) := H7.out.cell hlt
                    have hq := HHL.out j (by omega)
                    by_cases hm : (j : Int) ∈ l
                    · rw [if_pos hm] at hq
                      rw [← hq] at q
                      clear hq
                      go_wp2_with fail
                      refine (Has_any A7 c7 l j _ HI7.out.1 (by omega)).mono ?_
                      rw [decide_eq_true hm]
                      rintro e y ⟨rfl, rfl⟩
                      clear hm
                      go_wp2_with fail
                      go_roundw
                      case rel => exact ⟨j + 1, by omega, by go_num, by first | rfl | trivial⟩
                      case measure => simp [intOf]; omega
                    · rw [if_neg hm] at hq
                      rw [← hq] at q
                      clear hq
                      go_wp2_with fail
                      refine (Has_any A7 c7 l j _ HI7.out.1 (by omega)).mono ?_
                      rw [decide_eq_false hm]
                      rintro e y ⟨rfl, rfl⟩
                      clear hm
                      go_wp2_with fail
                      go_roundw
                      case rel => exact ⟨j + 1, by omega, by go_num, by first | rfl | trivial⟩
                      case measure => simp [intOf]; omega
                  · obtain rfl : j = 256 := by omega
                    go_wp2_with fail
                    go_roundw
                    case rel => exact ⟨k + 1, t0, t1, t2, by go_num, by go_num, HIN.out, by show _ ≤ _; have := HRK.out; have := HR.out; omega, K7.out, H7.out, B7.out⟩
                    case measure => simp [intOf]; omega

  · have hm : g0 = -1 := by rcases HG0.out with h | h <;> omega
    subst hm
    go_wp2_with fail
    obtain ⟨V, hV⟩ : ∃ V, (w2.alloc (.cells #[.int .i64 1, .int .i64 (-1), .int .i64 (-1)] 23)).alloc (.cells Tryd.zeroCells55 55) = V := ⟨_, rfl⟩
    have K6 : Hid (Blk V w2.heap.size 23 #[.int .i64 1, .int .i64 (-1), .int .i64 (-1)]) := by show Blk _ _ _ _; rw [← hV]; exact (Blk.new_ rfl rfl).alloc_ _
    have H8 : Hid (HA V (w2.heap.size + 1) (hasF (1, -1, -1))) := by
      show HA _ _ _
      rw [← hV]
      refine ⟨_, Blk.new_ (by simp) rfl, by rw [zc_eq]; simp, fun k hk => ?_⟩
      rw [zc_eq]
      simp [hk, hasF, oneI]; try omega
    have HI0 : Hid (InF (1, -1, -1) ∧ rkF (1, -1, -1) ≤ 5) := ⟨.inl ⟨rfl, rfl, .inl rfl⟩, by simp [rkF]⟩
    have HB3 : Hid (Below w.heap.size w V) := by show Below _ _ _; rw [← hV]; exact (HB2.out.alloc zz _).alloc (by simp; omega) _
    rw [hV]
    clear hV
    go_loopw [9, 10, 11, 12, 13, 14, 15, 16, 17, 18, 19, 20, 21, 22] (fun ev i _ _ _ _ _ _ _ _ _ _ _ _ wr => ∃ (k : Nat) (s f g : Int), ev = .int .i64 k ∧ i = .int .i64 k ∧ Hid (InF (s, f, g)) ∧ Hid (rkF (s, f, g) + k ≤ 5) ∧ Hid (Blk wr w2.heap.size 23 #[.int .i64 s, .int .i64 f, .int .i64 g]) ∧ Hid (HA wr (w2.heap.size + 1) (hasF (s, f, g))) ∧ Hid (Below w.heap.size w wr)) (fun _ i _ _ _ _ _ _ _ _ _ _ _ _ _ => 12 - (intOf i).toNat)
    case atStart => exact ⟨0, 1, -1, -1, rfl, rfl, HI0.out.1, HI0.out.2, K6, H8, HB3⟩
    case round =>
      clear K6 H8 HI0 HB3
      obtain ⟨wo, rfl⟩ : ∃ wo : World, wo = wr := ⟨_, rfl⟩
      obtain ⟨k, s, f, g, rfl, rfl, HI, HR, HK, HH, HB⟩ := hrel
      have hk5 : k ≤ 5 := by have := HR.out; omega
      have hk12 : (k : Int) < 12 := by omega
      have hk6 : (k : Int) ≤ 5 := by omega
      have HCH := Lib.hid (chkF HI.out)
      have kl := HK.out.lt
      have hl8 := HH.out.lt
      have zr := HB.out.size
      have n8 : w2.heap.size + 1 ≠ w2.heap.size := by omega
      have HALR : Hid (AL wo) := HAL.out.ext HB.out
      have HSR : Hid (Sl wo (.int .i64) A nums) := HS.out.ext HB.out
      rcases stepF HI.out (atS nums k) with ⟨hp, hev⟩ | ⟨ev, fr, ⟨t0, t1, t2⟩, fl, mp, hp, hst, hfl, hev1, hmp, hin, hrk, hhas⟩
      · have HOV : Hid (oveR (s, f, g) = (true, 0)) := by show _ = _; unfold oveR; rw [if_pos (chkF HI.out), hev]; rfl
        have HP := Lib.hid hp
        clear hp hev
        go_wp2_with fail
        refine wp_region_chain2 [1, 0, 0, 1, 1, 0, 0, 0, 0, 0, 0, 0] [[], [], [], [], [], [], [], [], [], [], [], []] [.kn ?fbpn0, .is ?fbpn1, .is ?fbpn2, .kn (.int .i64 (atS nums k)), .kn (.tuple #[.int .i64 0, .int .i64 0, .bool false]), .is ?fbpn5, .is ?fbpn6, .is ?fbpn7, .is ?fbpn8, .is ?fbpn9, .is ?fbpn10, .is ?fbpn11] (by rfl) (by rfl) (by kernel_rfl) (by kernel_rfl) (by kernel_rfl) (by kernel_rfl) (by kernel_rfl) (by kernel_rfl) (lts_kn (lts_is (lts_is (lts_kn (lts_kn (lts_is (lts_is (lts_is (lts_is (lts_is (lts_is (lts_is lts_nil)))))))))))) (fun W0 hb0 hz0 => ?_)
        rotate_left 10
        rw [show lateIdx [1, 0, 0, 1, 1, 0, 0, 0, 0, 0, 0, 0] = [] from by rfl]
        have HALW : Hid (AL W0) := HALR.out.ext hb0
        have HSW : Hid (Sl W0 (.int .i64) A nums) := HSR.out.ext hb0
        have kW0 := HK.out.below_ hb0 kl
        have p0 : W0.cell? ⟨w2.heap.size, 0, none⟩ = some (.int .i64 s) := (kW0.cell_ 0).trans (by simp)
        have p1 : W0.cell? ⟨w2.heap.size, 1, none⟩ = some (.int .i64 f) := (kW0.cell_ 1).trans (by simp)
        have p2 : W0.cell? ⟨w2.heap.size, 2, none⟩ = some (.int .i64 g) := (kW0.cell_ 2).trans (by simp)
        have zW := kW0.lt
        refine chn_kn (stp_take (by rfl) ?ybpn0) ?rbpn0
        case ybpn0 =>
          intro w hbw hd
          have r0 := cell_keep hbw p0 zW
          have r1 := cell_keep hbw p1 zW
          have r2 := cell_keep hbw p2 zW
          clear hd
          go_simp
          first | done | with_reducible rfl
        (try simp only [Act.put, List.setIfInBounds_toArray, List.set_cons_zero, List.set_cons_succ, List.nil_append, List.cons_append, Nat.reduceAdd])
        refine chn_is (stp_pure (by rfl) ?ybpn1) ?rbpn1
        case ybpn1 =>
          intro w
          go_simp
          first | done | with_reducible rfl
        (try simp only [Act.put, List.setIfInBounds_toArray, List.set_cons_zero, List.set_cons_succ, List.nil_append, List.cons_append, Nat.reduceAdd])
        refine chn_is (stp_pure (by rfl) ?ybpn2) ?rbpn2
        case ybpn2 =>
          intro w
          go_simp
          first | done | with_reducible rfl
        (try simp only [Act.put, List.setIfInBounds_toArray, List.set_cons_zero, List.set_cons_succ, List.nil_append, List.cons_append, Nat.reduceAdd])
        refine chn_kn ?sbpn3 ?rbpn3
        case sbpn3 =>
          intro w hbw hd K Q' hK
          clear hd
          go_simp
          refine (At_any A c nums k _ (HSW.out.ext hbw) (by omega)).mono ?_
          rintro e y ⟨rfl, rfl⟩
          go_wp2_with fail
          refine hK.out (.int .i64 (atS nums k)) _ _ ?_ ?_ rfl
          · (simp only [Act.put, List.setIfInBounds_toArray, List.set_cons_zero, List.set_cons_succ, List.nil_append, List.cons_append, Nat.reduceAdd])
          · exact (by repeat' (first | with_reducible exact Below.refl _ _ | with_reducible assumption | with_reducible apply Below.drew | with_reducible apply below_drewN | with_reducible apply Below.alloc | with_reducible apply Below.setCell | (with_reducible refine Below.trans ?_ (Below.mono (by assumption) ?_)) | (simp; done) | (simp; omega) | omega | with_reducible apply le_size_alloc | with_reducible apply le_size_drewN | with_reducible apply le_size_drew | with_reducible apply le_size_setCell | with_reducible refine Nat.le_trans ?_ (Below.size (by assumption))))
        (try simp only [Act.put, List.setIfInBounds_toArray, List.set_cons_zero, List.set_cons_succ, List.nil_append, List.cons_append, Nat.reduceAdd])
        refine chn_kn ?sbpn4 ?rbpn4
        case sbpn4 =>
          intro w hbw hd K Q' hK
          clear hd
          go_simp
          refine (pick_all s f g (atS nums k) _ (HALW.out.ext hbw) HCH.out).mono ?_
          unfold PckPost
          rw [HP.out]
          rintro e y ⟨rfl, hy⟩
          go_wp2_with fail
          refine hK.out (.tuple #[.int .i64 0, .int .i64 0, .bool false]) _ _ ?_ ?_ rfl
          · (simp only [Act.put, List.setIfInBounds_toArray, List.set_cons_zero, List.set_cons_succ, List.nil_append, List.cons_append, Nat.reduceAdd])
          · exact (by repeat' (first | with_reducible exact Below.refl _ _ | with_reducible assumption | with_reducible apply Below.drew | with_reducible apply below_drewN | with_reducible apply Below.alloc | with_reducible apply Below.setCell | (with_reducible refine Below.trans ?_ (Below.mono (by assumption) ?_)) | (simp; done) | (simp; omega) | omega | with_reducible apply le_size_alloc | with_reducible apply le_size_drewN | with_reducible apply le_size_drew | with_reducible apply le_size_setCell | with_reducible refine Nat.le_trans ?_ (Below.size (by assumption))))
        (try simp only [Act.put, List.setIfInBounds_toArray, List.set_cons_zero, List.set_cons_succ, List.nil_append, List.cons_append, Nat.reduceAdd])
        refine chn_is (stp_pure (by rfl) ?ybpn5) ?rbpn5
        case ybpn5 =>
          intro w
          go_simp
          first | done | with_reducible rfl
        (try simp only [Act.put, List.setIfInBounds_toArray, List.set_cons_zero, List.set_cons_succ, List.nil_append, List.cons_append, Nat.reduceAdd])
        refine chn_is (stp_pure (by rfl) ?ybpn6) ?rbpn6
        case ybpn6 =>
          intro w
          go_simp
          first | done | with_reducible rfl
        (try simp only [Act.put, List.setIfInBounds_toArray, List.set_cons_zero, List.set_cons_succ, List.nil_append, List.cons_append, Nat.reduceAdd])
        refine chn_is (stp_pure (by rfl) ?ybpn7) ?rbpn7
        case ybpn7 =>
          intro w
          go_simp
          first | done | with_reducible rfl
        (try simp only [Act.put, List.setIfInBounds_toArray, List.set_cons_zero, List.set_cons_succ, List.nil_append, List.cons_append, Nat.reduceAdd])
        refine chn_is (stp_pure (by rfl) ?ybpn8) ?rbpn8
        case ybpn8 =>
          intro w
          go_simp
          first | done | with_reducible rfl
        (try simp only [Act.put, List.setIfInBounds_toArray, List.set_cons_zero, List.set_cons_succ, List.nil_append, List.cons_append, Nat.reduceAdd])
        refine chn_is (stp_pure (by rfl) ?ybpn9) ?rbpn9
        case ybpn9 =>
          intro w
          go_simp
          first | done | with_reducible rfl
        (try simp only [Act.put, List.setIfInBounds_toArray, List.set_cons_zero, List.set_cons_succ, List.nil_append, List.cons_append, Nat.reduceAdd])
        refine chn_is (stp_pure (by rfl) ?ybpn10) ?rbpn10
        case ybpn10 =>
          intro w
          go_simp
          first | done | with_reducible rfl
        (try simp only [Act.put, List.setIfInBounds_toArray, List.set_cons_zero, List.set_cons_succ, List.nil_append, List.cons_append, Nat.reduceAdd])
        refine chn_is (stp_pure (by rfl) ?ybpn11) ?rbpn11
        case ybpn11 =>
          intro w
          go_simp
          first | done | with_reducible rfl
        (try simp only [Act.put, List.setIfInBounds_toArray, List.set_cons_zero, List.set_cons_succ, List.nil_append, List.cons_append, Nat.reduceAdd])
        refine chn_end (fun wz lo hi hbz hd hR => ?_)
        have kW := kW0.below_ hbz zW
        have bx4 := hb0.trans (hbz.mono hb0.size)
        clear hd hR kW0 p0 p1 p2 HALW HSW zW hb0 hbz hz0
        refine late_none ?_
        obtain ⟨x4, rfl⟩ : ∃ x4 : World, x4 = wz := ⟨_, rfl⟩
        have q0 : x4.cell? ⟨w2.heap.size, 0, none⟩ = some (.int .i64 s) := (kW.cell_ 0).trans (by simp)
        have q1 : x4.cell? ⟨w2.heap.size, 1, none⟩ = some (.int .i64 f) := (kW.cell_ 1).trans (by simp)
        have q2 : x4.cell? ⟨w2.heap.size, 2, none⟩ = some (.int .i64 g) := (kW.cell_ 2).trans (by simp)
        clear kW
        go_wp2_with fail
        refine (Over_any s f g _ (HALR.out.ext bx4)).mono ?_
        rw [HOV.out]
        rintro e x5 ⟨rfl, hx5⟩
        have BF := HB.out.trans ((bx4.trans (hx5.mono bx4.size)).mono zr)
        clear hx5 bx4
        go_wp2_with fail
        go_ret
        exact ⟨rfl, BF⟩
      · have HP := Lib.hid hp; have HST := Lib.hid hst; have HFL := Lib.hid hfl; have HIN := Lib.hid hin; have HRK := Lib.hid hrk; have HHAS := Lib.hid hhas
        have HCT := Lib.hid (chkF hin)
        have HM1 : Hid (ev = 1 → mp < 0) := fun h => by subst h; exact stp_mp1 hst
        have HE1 := Lib.hid hev1; have HMP := Lib.hid hmp
        obtain ⟨l, hl_⟩ : ∃ l, (framR (t0, t1, t2)).1 = l := ⟨_, rfl⟩
        obtain ⟨hf0, hfl2, hfm⟩ := framF hin
        have HFR : Hid (framR (t0, t1, t2) = (l, 0)) := Prod.ext hl_ hf0
        have hll : l.length ≤ 2 := by rw [← hl_]; exact hfl2
        have HHL : Hid (∀ k : Int, 0 ≤ k → (if k ∈ l then 1 else 0) = hasF (t0, t1, t2) k) := by show ∀ _, _; rw [← hl_]; exact hfm
        have hfl1 : fl.length ≤ 1 := by rcases hfl with h | ⟨y, h, _⟩ <;> simp [h]
        clear hp hst hfl hin hrk hhas hev1 hmp hl_ hf0 hfl2 hfm
        go_wp2_with fail
        refine wp_region_chain2 [1, 0, 0, 1, 1, 0, 0, 0, 0, 0, 0, 0] [[], [], [], [], [], [], [], [], [], [], [], []] [.kn ?fbqn0, .is ?fbqn1, .is ?fbqn2, .kn (.int .i64 (atS nums k)), .kn (.tuple #[.int .i64 ev, .int .i64 fr, .bool true]), .is ?fbqn5, .is ?fbqn6, .is ?fbqn7, .is ?fbqn8, .is ?fbqn9, .is ?fbqn10, .is ?fbqn11] (by rfl) (by rfl) (by kernel_rfl) (by kernel_rfl) (by kernel_rfl) (by kernel_rfl) (by kernel_rfl) (by kernel_rfl) (lts_kn (lts_is (lts_is (lts_kn (lts_kn (lts_is (lts_is (lts_is (lts_is (lts_is (lts_is (lts_is lts_nil)))))))))))) (fun W0 hb0 hz0 => ?_)
        rotate_left 10
        rw [show lateIdx [1, 0, 0, 1, 1, 0, 0, 0, 0, 0, 0, 0] = [] from by rfl]
        have HALW : Hid (AL W0) := HALR.out.ext hb0
        have HSW : Hid (Sl W0 (.int .i64) A nums) := HSR.out.ext hb0
        have kW0 := HK.out.below_ hb0 kl
        have p0 : W0.cell? ⟨w2.heap.size, 0, none⟩ = some (.int .i64 s) := (kW0.cell_ 0).trans (by simp)
        have p1 : W0.cell? ⟨w2.heap.size, 1, none⟩ = some (.int .i64 f) := (kW0.cell_ 1).trans (by simp)
        have p2 : W0.cell? ⟨w2.heap.size, 2, none⟩ = some (.int .i64 g) := (kW0.cell_ 2).trans (by simp)
        have zW := kW0.lt
        refine chn_kn (stp_take (by rfl) ?ybqn0) ?rbqn0
        case ybqn0 =>
          intro w hbw hd
          have r0 := cell_keep hbw p0 zW
          have r1 := cell_keep hbw p1 zW
          have r2 := cell_keep hbw p2 zW
          clear hd
          go_simp
          first | done | with_reducible rfl
        (try simp only [Act.put, List.setIfInBounds_toArray, List.set_cons_zero, List.set_cons_succ, List.nil_append, List.cons_append, Nat.reduceAdd])
        refine chn_is (stp_pure (by rfl) ?ybqn1) ?rbqn1
        case ybqn1 =>
          intro w
          go_simp
          first | done | with_reducible rfl
        (try simp only [Act.put, List.setIfInBounds_toArray, List.set_cons_zero, List.set_cons_succ, List.nil_append, List.cons_append, Nat.reduceAdd])
        refine chn_is (stp_pure (by rfl) ?ybqn2) ?rbqn2
        case ybqn2 =>
          intro w
          go_simp
          first | done | with_reducible rfl
        (try simp only [Act.put, List.setIfInBounds_toArray, List.set_cons_zero, List.set_cons_succ, List.nil_append, List.cons_append, Nat.reduceAdd])
        refine chn_kn ?sbqn3 ?rbqn3
        case sbqn3 =>
          intro w hbw hd K Q' hK
          clear hd
          go_simp
          refine (At_any A c nums k _ (HSW.out.ext hbw) (by omega)).mono ?_
          rintro e y ⟨rfl, rfl⟩
          go_wp2_with fail
          refine hK.out (.int .i64 (atS nums k)) _ _ ?_ ?_ rfl
          · (simp only [Act.put, List.setIfInBounds_toArray, List.set_cons_zero, List.set_cons_succ, List.nil_append, List.cons_append, Nat.reduceAdd])
          · exact (by repeat' (first | with_reducible exact Below.refl _ _ | with_reducible assumption | with_reducible apply Below.drew | with_reducible apply below_drewN | with_reducible apply Below.alloc | with_reducible apply Below.setCell | (with_reducible refine Below.trans ?_ (Below.mono (by assumption) ?_)) | (simp; done) | (simp; omega) | omega | with_reducible apply le_size_alloc | with_reducible apply le_size_drewN | with_reducible apply le_size_drew | with_reducible apply le_size_setCell | with_reducible refine Nat.le_trans ?_ (Below.size (by assumption))))
        (try simp only [Act.put, List.setIfInBounds_toArray, List.set_cons_zero, List.set_cons_succ, List.nil_append, List.cons_append, Nat.reduceAdd])
        refine chn_kn ?sbqn4 ?rbqn4
        case sbqn4 =>
          intro w hbw hd K Q' hK
          clear hd
          go_simp
          refine (pick_all s f g (atS nums k) _ (HALW.out.ext hbw) HCH.out).mono ?_
          unfold PckPost
          rw [HP.out]
          rintro e y ⟨rfl, hy⟩
          go_wp2_with fail
          refine hK.out (.tuple #[.int .i64 ev, .int .i64 fr, .bool true]) _ _ ?_ ?_ rfl
          · (simp only [Act.put, List.setIfInBounds_toArray, List.set_cons_zero, List.set_cons_succ, List.nil_append, List.cons_append, Nat.reduceAdd])
          · exact (by repeat' (first | with_reducible exact Below.refl _ _ | with_reducible assumption | with_reducible apply Below.drew | with_reducible apply below_drewN | with_reducible apply Below.alloc | with_reducible apply Below.setCell | (with_reducible refine Below.trans ?_ (Below.mono (by assumption) ?_)) | (simp; done) | (simp; omega) | omega | with_reducible apply le_size_alloc | with_reducible apply le_size_drewN | with_reducible apply le_size_drew | with_reducible apply le_size_setCell | with_reducible refine Nat.le_trans ?_ (Below.size (by assumption))))
        (try simp only [Act.put, List.setIfInBounds_toArray, List.set_cons_zero, List.set_cons_succ, List.nil_append, List.cons_append, Nat.reduceAdd])
        refine chn_is (stp_pure (by rfl) ?ybqn5) ?rbqn5
        case ybqn5 =>
          intro w
          go_simp
          first | done | with_reducible rfl
        (try simp only [Act.put, List.setIfInBounds_toArray, List.set_cons_zero, List.set_cons_succ, List.nil_append, List.cons_append, Nat.reduceAdd])
        refine chn_is (stp_pure (by rfl) ?ybqn6) ?rbqn6
        case ybqn6 =>
          intro w
          go_simp
          first | done | with_reducible rfl
        (try simp only [Act.put, List.setIfInBounds_toArray, List.set_cons_zero, List.set_cons_succ, List.nil_append, List.cons_append, Nat.reduceAdd])
        refine chn_is (stp_pure (by rfl) ?ybqn7) ?rbqn7
        case ybqn7 =>
          intro w
          go_simp
          first | done | with_reducible rfl
        (try simp only [Act.put, List.setIfInBounds_toArray, List.set_cons_zero, List.set_cons_succ, List.nil_append, List.cons_append, Nat.reduceAdd])
        refine chn_is (stp_pure (by rfl) ?ybqn8) ?rbqn8
        case ybqn8 =>
          intro w
          go_simp
          first | done | with_reducible rfl
        (try simp only [Act.put, List.setIfInBounds_toArray, List.set_cons_zero, List.set_cons_succ, List.nil_append, List.cons_append, Nat.reduceAdd])
        refine chn_is (stp_pure (by rfl) ?ybqn9) ?rbqn9
        case ybqn9 =>
          intro w
          go_simp
          first | done | with_reducible rfl
        (try simp only [Act.put, List.setIfInBounds_toArray, List.set_cons_zero, List.set_cons_succ, List.nil_append, List.cons_append, Nat.reduceAdd])
        refine chn_is (stp_pure (by rfl) ?ybqn10) ?rbqn10
        case ybqn10 =>
          intro w
          go_simp
          first | done | with_reducible rfl
        (try simp only [Act.put, List.setIfInBounds_toArray, List.set_cons_zero, List.set_cons_succ, List.nil_append, List.cons_append, Nat.reduceAdd])
        refine chn_is (stp_pure (by rfl) ?ybqn11) ?rbqn11
        case ybqn11 =>
          intro w
          go_simp
          first | done | with_reducible rfl
        (try simp only [Act.put, List.setIfInBounds_toArray, List.set_cons_zero, List.set_cons_succ, List.nil_append, List.cons_append, Nat.reduceAdd])
        refine chn_end (fun wz lo hi hbz hd hR => ?_)
        have kW := kW0.below_ hbz zW
        have bx4 := hb0.trans (hbz.mono hb0.size)
        clear hd hR kW0 p0 p1 p2 HALW HSW zW hb0 hbz hz0
        refine late_none ?_
        obtain ⟨x4, rfl⟩ : ∃ x4 : World, x4 = wz := ⟨_, rfl⟩
        have K4 := Lib.hid kW
        have H4 := Lib.hid (HH.out.below bx4)
        have q0 : x4.cell? ⟨w2.heap.size, 0, none⟩ = some (.int .i64 s) := (kW.cell_ 0).trans (by simp)
        have q1 : x4.cell? ⟨w2.heap.size, 1, none⟩ = some (.int .i64 f) := (kW.cell_ 1).trans (by simp)
        have q2 : x4.cell? ⟨w2.heap.size, 2, none⟩ = some (.int .i64 g) := (kW.cell_ 2).trans (by simp)
        have B4 : Hid (Below w.heap.size w x4) := HB.out.trans (bx4.mono zr)
        have kl4 := kW.lt
        have hl4 := H4.out.lt
        clear kW
        go_wp2_with fail
        refine (Step_any s f g ev fr _ (HALR.out.ext bx4)).mono ?_
        unfold StpPost
        rw [HST.out]
        rintro e x5 ⟨A5, c5, rfl, hi5, hx5⟩
        clear q0 q1 q2
        have z45 := hx5.size
        have K5 := Lib.hid (K4.out.below_ hx5 K4.out.lt)
        have H5 := Lib.hid (H4.out.below hx5)
        have B5 := Lib.hid (B4.out.trans (hx5.mono B4.out.size))
        have HI5 := Lib.hid hi5
        have HAL5 : Hid (AL x5) := (HALR.out.ext bx4).ext hx5
        clear hi5 hx5 bx4 K4 H4 B4
        go_wp2_with fail
        refine (Check_any t0 t1 t2 _ HCT.out).mono ?_
        rintro e x6 ⟨rfl, hx6⟩
        have hx6' : Below x5.heap.size x5 x6 := box_below hx6
        have K6 := Lib.hid (K5.out.below_ hx6' K5.out.lt)
        have H6 := Lib.hid (H5.out.below hx6')
        have B6 := Lib.hid (B5.out.trans (hx6'.mono B5.out.size))
        have I6 : Hid (IWn x6 x4.heap.size A5 c5 fl) := HI5.out.ext hx6'
        have KT : Hid (Blk x6 x5.heap.size 23 #[.int .i64 t0, .int .i64 t1, .int .i64 t2]) := Blk.below_ (Blk.new_ rfl rfl) hx6 (by simp)
        clear hx6 hx6' K5 H5 B5 HI5
        by_cases he : ev = 1
        · have hfr := HE1.out he
          obtain ⟨F, rfl⟩ : ∃ F : Nat, fr = F := ⟨fr.toNat, by have := hfr.1; omega⟩
          have hF : F < 256 := by have := hfr.2; omega
          have hF3 : (F : Int) < 256 := by omega
          have hm0 := HM1.out he
          have heb : (ev == 1) = true := by simpa using he
          obtain ⟨v, hv, hv0, hv1⟩ : ∃ v : Int, hasF (s, f, g) F = v ∧ 0 ≤ v ∧ v ≤ 2 := by
            refine ⟨_, rfl, ?_⟩
            simp only [hasF, oneI]
            constructor <;> (repeat' split) <;> omega
          have q : x6.cell? ⟨w2.heap.size + 1, F, none⟩ = some (.int .i64 v) := (H6.out.cell hF).trans (by rw [hv])
          have qf := H6.out.frozen F
          obtain ⟨U, hU⟩ : ∃ U, x6.setCell ⟨w2.heap.size + 1, F, none⟩ (.int .i64 (v + 1)) = U := ⟨_, rfl⟩
          have HU : Hid (HA U (w2.heap.size + 1) (fun q => hasF (s, f, g) q + (if ev = 1 then oneI q F else 0) - frdF (fl.take 0) q)) := by
            show HA _ _ _
            rw [← hU]
            refine H6.out.set hF (v + 1) ?_ ?_
            · rw [← hv, if_pos he]; simp [frdF, oneI]
            · intro y _ hy; rw [if_pos he]; simp [frdF, oneI, show ¬ (y : Int) = F by omega]
          have KU : Hid (Blk U w2.heap.size 23 #[.int .i64 s, .int .i64 f, .int .i64 g]) := by show Blk _ _ _ _; rw [← hU]; exact K6.out.far_ (by simp) _
          have KT' : Hid (Blk U x5.heap.size 23 #[.int .i64 t0, .int .i64 t1, .int .i64 t2]) := by show Blk _ _ _ _; rw [← hU]; exact KT.out.far_ (by simp; omega) _
          have IU : Hid (IWn U x4.heap.size A5 c5 fl) := by show IWn _ _ _ _ _; rw [← hU]; exact I6.out.far F _ (by omega)
          have BU : Hid (Below w.heap.size w U) := by show Below _ _ _; rw [← hU]; exact B6.out.setCell (p := ⟨w2.heap.size + 1, F, none⟩) (show w.heap.size ≤ w2.heap.size + 1 by omega) _
          have HE := Lib.hid he
          clear hv KT K6 H6 I6 B6 hfr he
          obtain ⟨fr, hfr⟩ : ∃ fr : Int, fr = F := ⟨_, rfl⟩
          rw [← hfr] at HU HST HHAS HP HE1
          clear hfr
          have KT := KT'
          clear KT'
          go_wp2_with fail
          (try rw [hU])
          clear hU q qf heb
          have z5 := KT.out.lt
          obtain ⟨wu, rfl⟩ : ∃ wu : World, wu = U := ⟨_, rfl⟩
          go_loopw [18] (fun i wr => ∃ j : Nat, j ≤ fl.length ∧ i = .int .i64 j ∧ Hid (Blk wr w2.heap.size 23 #[.int .i64 s, .int .i64 f, .int .i64 g]) ∧ Hid (Blk wr x5.heap.size 23 #[.int .i64 t0, .int .i64 t1, .int .i64 t2]) ∧ Hid (IWn wr x4.heap.size A5 c5 fl) ∧ Hid (HA wr (w2.heap.size + 1) (fun q => hasF (s, f, g) q + (if ev = 1 then oneI q fr else 0) - frdF (fl.take j) q)) ∧ Hid (Below w.heap.size w wr)) (fun i _ => fl.length - (intOf i).toNat)
          case atStart => exact ⟨0, Nat.zero_le _, rfl, KU, KT, IU, HU, BU⟩
          case round =>
            obtain ⟨wi, rfl⟩ : ∃ wi : World, wi = wr := ⟨_, rfl⟩
            clear KU KT IU HU BU
            obtain ⟨j, hj, rfl, KW, KT, IU, HU, BW⟩ := hrel
            by_cases hlt : j < fl.length
            · obtain ⟨bL, oL, x, rfl, hbl, hx, hcx⟩ := IU.out.1.1.at_ hlt
              have h1 : j = 0 ∧ fl = [x] ∧ frI x := by
                rcases HFL.out with h | ⟨y, h, h'⟩
                · rw [h] at hlt; simp at hlt
                · rw [h] at hlt hx; obtain rfl : j = 0 := by simpa using hlt
                  obtain rfl : y = x := by simpa using hx
                  exact ⟨rfl, h, h'⟩
              obtain ⟨j0, HFX, hX0, hX1⟩ : j = 0 ∧ Hid (fl = [x]) ∧ 0 ≤ x ∧ x < 256 := ⟨h1.1, h1.2.1, h1.2.2⟩
              obtain ⟨X, rfl⟩ : ∃ X : Nat, x = X := ⟨x.toNat, by omega⟩
              have hX : X < 256 := by omega
              have hX3 : ¬ (X : Int) ≥ 256 := by omega
              have i1 : (j : Int) < fl.length := by omega
              obtain ⟨v, hv, hv0, hv1⟩ : ∃ v : Int, hasF (s, f, g) X + (if ev = 1 then oneI X fr else 0) - frdF (fl.take j) X = v ∧ 0 ≤ v ∧ v ≤ 3 := by
                refine ⟨_, rfl, ?_⟩
                subst j0
                simp only [List.take_zero, frdF, hasF, oneI]
                constructor <;> (repeat' split) <;> omega
              have q : wi.cell? ⟨w2.heap.size + 1, X, none⟩ = some (.int .i64 v) := (HU.out.cell hX).trans (by rw [hv])
              have qf := HU.out.frozen X
              have HV : Hid (HA (wi.setCell ⟨w2.heap.size + 1, X, none⟩ (.int .i64 (v - 1))) (w2.heap.size + 1) (fun q => hasF (s, f, g) q + (if ev = 1 then oneI q fr else 0) - frdF (fl.take (j + 1)) q)) := by
                refine HU.out.set hX (v - 1) ?_ ?_
                · rw [← hv]; subst j0; rw [HFX.out]; simp [frdF, oneI]
                · intro y _ hy; subst j0; rw [HFX.out]; simp [frdF, oneI, show ¬ (y : Int) = X by omega]
              have J0 := Lib.hid j0
              clear hv h1 hx j0
              have hbl2 : bL < wi.heap.size := hbl
              have nB : w2.heap.size + 1 ≠ x5.heap.size := by omega
              go_wp2_with fail
              go_roundw
              case rel =>
                refine ⟨j + 1, by omega, by go_num, KW.out.far_ (by simp) _, KT.out.far_ (by simp; omega) _, IU.out.far X _ (by omega), HV.out, BW.out.setCell (p := ⟨w2.heap.size + 1, X, none⟩) (show w.heap.size ≤ w2.heap.size + 1 by omega) _⟩
              case measure => simp [intOf]; omega
            · obtain rfl : j = fl.length := by omega
              have HT : Hid (HA wi (w2.heap.size + 1) (hasF (t0, t1, t2))) := HU.out.congr fun q hq => by have := HHAS.out q (by omega); rw [List.take_length]; exact this.symm
              clear HU IU hlt
              have u0 : wi.cell? ⟨x5.heap.size, 0, none⟩ = some (.int .i64 t0) := (KT.out.cell_ 0).trans (by simp)
              have u1 : wi.cell? ⟨x5.heap.size, 1, none⟩ = some (.int .i64 t1) := (KT.out.cell_ 1).trans (by simp)
              have u2 : wi.cell? ⟨x5.heap.size, 2, none⟩ = some (.int .i64 t2) := (KT.out.cell_ 2).trans (by simp)
              have v0 : wi.cell? ⟨w2.heap.size, 0, none⟩ = some (.int .i64 s) := (KW.out.cell_ 0).trans (by simp)
              have v1 : wi.cell? ⟨w2.heap.size, 1, none⟩ = some (.int .i64 f) := (KW.out.cell_ 1).trans (by simp)
              have v2 : wi.cell? ⟨w2.heap.size, 2, none⟩ = some (.int .i64 g) := (KW.out.cell_ 2).trans (by simp)
              have f0_ := KW.out.frozen_ 0
              have f1_ := KW.out.frozen_ 1
              have f2_ := KW.out.frozen_ 2
              go_wp2_with fail
              obtain ⟨U, hU⟩ : ∃ U, ((wi.setCell ⟨w2.heap.size, 0, none⟩ (.int .i64 t0)).setCell ⟨w2.heap.size, 1, none⟩ (.int .i64 t1)).setCell ⟨w2.heap.size, 2, none⟩ (.int .i64 t2) = U := ⟨_, rfl⟩
              have KU : Hid (Blk U w2.heap.size 23 #[.int .i64 t0, .int .i64 t1, .int .i64 t2]) := by show Blk _ _ _ _; rw [← hU]; simpa using ((KW.out.set_ 0 (.int .i64 t0)).set_ 1 (.int .i64 t1)).set_ 2 (.int .i64 t2)
              have HU : Hid (HA U (w2.heap.size + 1) (hasF (t0, t1, t2))) := by show HA _ _ _; rw [← hU]; exact ((HT.out.far (p := ⟨w2.heap.size, 0, none⟩) n8 _).far (p := ⟨w2.heap.size, 1, none⟩) n8 _).far (p := ⟨w2.heap.size, 2, none⟩) n8 _
              have BU : Hid (Below w.heap.size w U) := by show Below _ _ _; rw [← hU]; exact ((BW.out.setCell (p := ⟨w2.heap.size, 0, none⟩) zz _).setCell (p := ⟨w2.heap.size, 1, none⟩) zz _).setCell (p := ⟨w2.heap.size, 2, none⟩) zz _
              rw [hU]
              clear hU KW KT HT BW u0 u1 u2 v0 v1 v2 f0_ f1_ f2_
              refine (Frames_any t0 t1 t2 _).mono ?_
              unfold LsPost
              rw [HFR.out]
              rintro e x7 ⟨A7, c7, rfl, hi7, hx7⟩
              have HI7 := Lib.hid hi7
              have K7 := Lib.hid (KU.out.below_ hx7 KU.out.lt)
              have H7 := Lib.hid (HU.out.below hx7)
              have B7 := Lib.hid (BU.out.trans (hx7.mono BU.out.size))
              clear hi7 hx7 KU HU BU
              go_wp2_with fail
              go_loopw [21, 22] (fun i _ wr => ∃ j : Nat, j ≤ 256 ∧ i = .int .i64 j ∧ x7 = wr) (fun i _ _ => 256 - (intOf i).toNat)
              case atStart => exact ⟨0, by omega, rfl, rfl⟩
              case round =>
                obtain ⟨j, hj, rfl, rfl⟩ := hrel
                by_cases hlt : j < 256
                · have i1 : (j : Int) < 256 := by omega
                  have q : x7.cell? ⟨w2.heap.size + 1, j, none⟩ = some (.int .i64 (hasF (t0, t1, t2) j)) := H7.out.cell hlt
                  have hq := HHL.out j (by omega)
                  by_cases hm : (j : Int) ∈ l
                  · rw [if_pos hm] at hq
                    rw [← hq] at q
                    clear hq
                    go_wp2_with fail
                    refine (Has_any A7 c7 l j _ HI7.out.1 (by omega)).mono ?_
                    rw [decide_eq_true hm]
                    rintro e y ⟨rfl, rfl⟩
                    clear hm
                    go_wp2_with fail
                    go_roundw
                    case rel => exact ⟨j + 1, by omega, by go_num, by first | rfl | trivial⟩
                    case measure => simp [intOf]; omega
                  · rw [if_neg hm] at hq
                    rw [← hq] at q
                    clear hq
                    go_wp2_with fail
                    refine (Has_any A7 c7 l j _ HI7.out.1 (by omega)).mono ?_
                    rw [decide_eq_false hm]
                    rintro e y ⟨rfl, rfl⟩
                    clear hm
                    go_wp2_with fail
                    go_roundw
                    case rel => exact ⟨j + 1, by omega, by go_num, by first | rfl | trivial⟩
                    case measure => simp [intOf]; omega
                · obtain rfl : j = 256 := by omega
                  go_wp2_with fail
                  go_roundw
                  case rel => exact ⟨k + 1, t0, t1, t2, by go_num, by go_num, HIN.out, by show _ ≤ _; have := HRK.out; have := HR.out; omega, K7.out, H7.out, B7.out⟩
                  case measure => simp [intOf]; omega
        · have heb : (ev == 1) = false := by simpa using he
          obtain ⟨U, rfl⟩ : ∃ U : World, U = x6 := ⟨_, rfl⟩
          have HU : Hid (HA U (w2.heap.size + 1) (fun q => hasF (s, f, g) q + (if ev = 1 then oneI q fr else 0) - frdF (fl.take 0) q)) := H6.out.congr fun q _ => by rw [if_neg he]; simp [frdF]
          have KU := K6; have IU := I6; have BU := B6
          have HE := Lib.hid he
          clear K6 H6 I6 B6 he
          go_wp2_with fail
          clear heb
          have z5 := KT.out.lt
          obtain ⟨wu, rfl⟩ : ∃ wu : World, wu = U := ⟨_, rfl⟩
          go_loopw [18] (fun i wr => ∃ j : Nat, j ≤ fl.length ∧ i = .int .i64 j ∧ Hid (Blk wr w2.heap.size 23 #[.int .i64 s, .int .i64 f, .int .i64 g]) ∧ Hid (Blk wr x5.heap.size 23 #[.int .i64 t0, .int .i64 t1, .int .i64 t2]) ∧ Hid (IWn wr x4.heap.size A5 c5 fl) ∧ Hid (HA wr (w2.heap.size + 1) (fun q => hasF (s, f, g) q + (if ev = 1 then oneI q fr else 0) - frdF (fl.take j) q)) ∧ Hid (Below w.heap.size w wr)) (fun i _ => fl.length - (intOf i).toNat)
          case atStart => exact ⟨0, Nat.zero_le _, rfl, KU, KT, IU, HU, BU⟩
          case round =>
            obtain ⟨wi, rfl⟩ : ∃ wi : World, wi = wr := ⟨_, rfl⟩
            clear KU KT IU HU BU
            obtain ⟨j, hj, rfl, KW, KT, IU, HU, BW⟩ := hrel
            by_cases hlt : j < fl.length
            · obtain ⟨bL, oL, x, rfl, hbl, hx, hcx⟩ := IU.out.1.1.at_ hlt
              have h1 : j = 0 ∧ fl = [x] ∧ frI x := by
                rcases HFL.out with h | ⟨y, h, h'⟩
                · rw [h] at hlt; simp at hlt
                · rw [h] at hlt hx; obtain rfl : j = 0 := by simpa using hlt
                  obtain rfl : y = x := by simpa using hx
                  exact ⟨rfl, h, h'⟩
              obtain ⟨j0, HFX, hX0, hX1⟩ : j = 0 ∧ Hid (fl = [x]) ∧ 0 ≤ x ∧ x < 256 := ⟨h1.1, h1.2.1, h1.2.2⟩
              obtain ⟨X, rfl⟩ : ∃ X : Nat, x = X := ⟨x.toNat, by omega⟩
              have hX : X < 256 := by omega
              have hX3 : ¬ (X : Int) ≥ 256 := by omega
              have i1 : (j : Int) < fl.length := by omega
              obtain ⟨v, hv, hv0, hv1⟩ : ∃ v : Int, hasF (s, f, g) X + (if ev = 1 then oneI X fr else 0) - frdF (fl.take j) X = v ∧ 0 ≤ v ∧ v ≤ 3 := by
                refine ⟨_, rfl, ?_⟩
                subst j0
                simp only [List.take_zero, frdF, hasF, oneI]
                constructor <;> (repeat' split) <;> omega
              have q : wi.cell? ⟨w2.heap.size + 1, X, none⟩ = some (.int .i64 v) := (HU.out.cell hX).trans (by rw [hv])
              have qf := HU.out.frozen X
              have HV : Hid (HA (wi.setCell ⟨w2.heap.size + 1, X, none⟩ (.int .i64 (v - 1))) (w2.heap.size + 1) (fun q => hasF (s, f, g) q + (if ev = 1 then oneI q fr else 0) - frdF (fl.take (j + 1)) q)) := by
                refine HU.out.set hX (v - 1) ?_ ?_
                · rw [← hv]; subst j0; rw [HFX.out]; simp [frdF, oneI]
                · intro y _ hy; subst j0; rw [HFX.out]; simp [frdF, oneI, show ¬ (y : Int) = X by omega]
              have J0 := Lib.hid j0
              clear hv h1 hx j0
              have hbl2 : bL < wi.heap.size := hbl
              have nB : w2.heap.size + 1 ≠ x5.heap.size := by omega
              go_wp2_with fail
              go_roundw
              case rel =>
                refine ⟨j + 1, by omega, by go_num, KW.out.far_ (by simp) _, KT.out.far_ (by simp; omega) _, IU.out.far X _ (by omega), HV.out, BW.out.setCell (p := ⟨w2.heap.size + 1, X, none⟩) (show w.heap.size ≤ w2.heap.size + 1 by omega) _⟩
              case measure => simp [intOf]; omega
            · obtain rfl : j = fl.length := by omega
              have HT : Hid (HA wi (w2.heap.size + 1) (hasF (t0, t1, t2))) := HU.out.congr fun q hq => by have := HHAS.out q (by omega); rw [List.take_length]; exact this.symm
              clear HU IU hlt
              by_cases hm0 : mp < 0
              · have u0 : wi.cell? ⟨x5.heap.size, 0, none⟩ = some (.int .i64 t0) := (KT.out.cell_ 0).trans (by simp)
                have u1 : wi.cell? ⟨x5.heap.size, 1, none⟩ = some (.int .i64 t1) := (KT.out.cell_ 1).trans (by simp)
                have u2 : wi.cell? ⟨x5.heap.size, 2, none⟩ = some (.int .i64 t2) := (KT.out.cell_ 2).trans (by simp)
                have v0 : wi.cell? ⟨w2.heap.size, 0, none⟩ = some (.int .i64 s) := (KW.out.cell_ 0).trans (by simp)
                have v1 : wi.cell? ⟨w2.heap.size, 1, none⟩ = some (.int .i64 f) := (KW.out.cell_ 1).trans (by simp)
                have v2 : wi.cell? ⟨w2.heap.size, 2, none⟩ = some (.int .i64 g) := (KW.out.cell_ 2).trans (by simp)
                have f0_ := KW.out.frozen_ 0
                have f1_ := KW.out.frozen_ 1
                have f2_ := KW.out.frozen_ 2
                go_wp2_with fail
                obtain ⟨U, hU⟩ : ∃ U, ((wi.setCell ⟨w2.heap.size, 0, none⟩ (.int .i64 t0)).setCell ⟨w2.heap.size, 1, none⟩ (.int .i64 t1)).setCell ⟨w2.heap.size, 2, none⟩ (.int .i64 t2) = U := ⟨_, rfl⟩
                have KU : Hid (Blk U w2.heap.size 23 #[.int .i64 t0, .int .i64 t1, .int .i64 t2]) := by show Blk _ _ _ _; rw [← hU]; simpa using ((KW.out.set_ 0 (.int .i64 t0)).set_ 1 (.int .i64 t1)).set_ 2 (.int .i64 t2)
                have HU : Hid (HA U (w2.heap.size + 1) (hasF (t0, t1, t2))) := by show HA _ _ _; rw [← hU]; exact ((HT.out.far (p := ⟨w2.heap.size, 0, none⟩) n8 _).far (p := ⟨w2.heap.size, 1, none⟩) n8 _).far (p := ⟨w2.heap.size, 2, none⟩) n8 _
                have BU : Hid (Below w.heap.size w U) := by show Below _ _ _; rw [← hU]; exact ((BW.out.setCell (p := ⟨w2.heap.size, 0, none⟩) zz _).setCell (p := ⟨w2.heap.size, 1, none⟩) zz _).setCell (p := ⟨w2.heap.size, 2, none⟩) zz _
                rw [hU]
                clear hU KW KT HT BW u0 u1 u2 v0 v1 v2 f0_ f1_ f2_
                refine (Frames_any t0 t1 t2 _).mono ?_
                unfold LsPost
                rw [HFR.out]
                rintro e x7 ⟨A7, c7, rfl, hi7, hx7⟩
                have HI7 := Lib.hid hi7
                have K7 := Lib.hid (KU.out.below_ hx7 KU.out.lt)
                have H7 := Lib.hid (HU.out.below hx7)
                have B7 := Lib.hid (BU.out.trans (hx7.mono BU.out.size))
                clear hi7 hx7 KU HU BU
                go_wp2_with fail
                go_loopw [21, 22] (fun i _ wr => ∃ j : Nat, j ≤ 256 ∧ i = .int .i64 j ∧ x7 = wr) (fun i _ _ => 256 - (intOf i).toNat)
                case atStart => exact ⟨0, by omega, rfl, rfl⟩
                case round =>
                  obtain ⟨j, hj, rfl, rfl⟩ := hrel
                  by_cases hlt : j < 256
                  · have i1 : (j : Int) < 256 := by omega
                    have q : x7.cell? ⟨w2.heap.size + 1, j, none⟩ = some (.int .i64 (hasF (t0, t1, t2) j)) := H7.out.cell hlt
                    have hq := HHL.out j (by omega)
                    by_cases hm : (j : Int) ∈ l
                    · rw [if_pos hm] at hq
                      rw [← hq] at q
                      clear hq
                      go_wp2_with fail
                      refine (Has_any A7 c7 l j _ HI7.out.1 (by omega)).mono ?_
                      rw [decide_eq_true hm]
                      rintro e y ⟨rfl, rfl⟩
                      clear hm
                      go_wp2_with fail
                      go_roundw
                      case rel => exact ⟨j + 1, by omega, by go_num, by first | rfl | trivial⟩
                      case measure => simp [intOf]; omega
                    · rw [if_neg hm] at hq
                      rw [← hq] at q
                      clear hq
                      go_wp2_with fail
                      refine (Has_any A7 c7 l j _ HI7.out.1 (by omega)).mono ?_
                      rw [decide_eq_false hm]
                      rintro e y ⟨rfl, rfl⟩
                      clear hm
                      go_wp2_with fail
                      go_roundw
                      case rel => exact ⟨j + 1, by omega, by go_num, by first | rfl | trivial⟩
                      case measure => simp [intOf]; omega
                  · obtain rfl : j = 256 := by omega
                    go_wp2_with fail
                    go_roundw
                    case rel => exact ⟨k + 1, t0, t1, t2, by go_num, by go_num, HIN.out, by show _ ≤ _; have := HRK.out; have := HR.out; omega, K7.out, H7.out, B7.out⟩
                    case measure => simp [intOf]; omega
              · obtain rfl : t1 = mp := (HMP.out.resolve_left hm0).symm
                have hm1 : 0 ≤ t1 := by omega
                have u0 : wi.cell? ⟨x5.heap.size, 0, none⟩ = some (.int .i64 t0) := (KT.out.cell_ 0).trans (by simp)
                have u1 : wi.cell? ⟨x5.heap.size, 1, none⟩ = some (.int .i64 t1) := (KT.out.cell_ 1).trans (by simp)
                have u2 : wi.cell? ⟨x5.heap.size, 2, none⟩ = some (.int .i64 t2) := (KT.out.cell_ 2).trans (by simp)
                have v0 : wi.cell? ⟨w2.heap.size, 0, none⟩ = some (.int .i64 s) := (KW.out.cell_ 0).trans (by simp)
                have v1 : wi.cell? ⟨w2.heap.size, 1, none⟩ = some (.int .i64 f) := (KW.out.cell_ 1).trans (by simp)
                have v2 : wi.cell? ⟨w2.heap.size, 2, none⟩ = some (.int .i64 g) := (KW.out.cell_ 2).trans (by simp)
                have f0_ := KW.out.frozen_ 0
                have f1_ := KW.out.frozen_ 1
                have f2_ := KW.out.frozen_ 2
                go_wp2_with fail
                obtain ⟨U, hU⟩ : ∃ U, ((wi.setCell ⟨w2.heap.size, 0, none⟩ (.int .i64 t0)).setCell ⟨w2.heap.size, 1, none⟩ (.int .i64 t1)).setCell ⟨w2.heap.size, 2, none⟩ (.int .i64 t2) = U := ⟨_, rfl⟩
                have KU : Hid (Blk U w2.heap.size 23 #[.int .i64 t0, .int .i64 t1, .int .i64 t2]) := by show Blk _ _ _ _; rw [← hU]; simpa using ((KW.out.set_ 0 (.int .i64 t0)).set_ 1 (.int .i64 t1)).set_ 2 (.int .i64 t2)
                have HU : Hid (HA U (w2.heap.size + 1) (hasF (t0, t1, t2))) := by show HA _ _ _; rw [← hU]; exact ((HT.out.far (p := ⟨w2.heap.size, 0, none⟩) n8 _).far (p := ⟨w2.heap.size, 1, none⟩) n8 _).far (p := ⟨w2.heap.size, 2, none⟩) n8 _
                have BU : Hid (Below w.heap.size w U) := by show Below _ _ _; rw [← hU]; exact ((BW.out.setCell (p := ⟨w2.heap.size, 0, none⟩) zz _).setCell (p := ⟨w2.heap.size, 1, none⟩) zz _).setCell (p := ⟨w2.heap.size, 2, none⟩) zz _
                rw [hU]
                clear hU KW KT HT BW u0 u1 u2 v0 v1 v2 f0_ f1_ f2_
                refine (Frames_any t0 t1 t2 _).mono ?_
                unfold LsPost
                rw [HFR.out]
                rintro e x7 ⟨A7, c7, rfl, hi7, hx7⟩
                have HI7 := Lib.hid hi7
                have K7 := Lib.hid (KU.out.below_ hx7 KU.out.lt)
                have H7 := Lib.hid (HU.out.below hx7)
                have B7 := Lib.hid (BU.out.trans (hx7.mono BU.out.size))
                clear hi7 hx7 KU HU BU
                go_wp2_with fail
                go_loopw [21, 22] (fun i _ wr => ∃ j : Nat, j ≤ 256 ∧ i = .int .i64 j ∧ x7 = wr) (fun i _ _ => 256 - (intOf i).toNat)
                case atStart => exact ⟨0, by omega, rfl, rfl⟩
                case round =>
                  obtain ⟨j, hj, rfl, rfl⟩ := hrel
                  by_cases hlt : j < 256
                  · have i1 : (j : Int) < 256 := by omega
                    have q : x7.cell? ⟨w2.heap.size + 1, j, none⟩ = some (.int .i64 (hasF (t0, t1, t2) j)) := H7.out.cell hlt
                    have hq := HHL.out j (by omega)
                    by_cases hm : (j : Int) ∈ l
                    · rw [if_pos hm] at hq
                      rw [← hq] at q
                      clear hq
                      go_wp2_with fail
                      refine (Has_any A7 c7 l j _ HI7.out.1 (by omega)).mono ?_
                      rw [decide_eq_true hm]
                      rintro e y ⟨rfl, rfl⟩
                      clear hm
                      go_wp2_with fail
                      go_roundw
                      case rel => exact ⟨j + 1, by omega, by go_num, by first | rfl | trivial⟩
                      case measure => simp [intOf]; omega
                    · rw [if_neg hm] at hq
                      rw [← hq] at q
                      clear hq
                      go_wp2_with fail
                      refine (Has_any A7 c7 l j _ HI7.out.1 (by omega)).mono ?_
                      rw [decide_eq_false hm]
                      rintro e y ⟨rfl, rfl⟩
                      clear hm
                      go_wp2_with fail
                      go_roundw
                      case rel => exact ⟨j + 1, by omega, by go_num, by first | rfl | trivial⟩
                      case measure => simp [intOf]; omega
                  · obtain rfl : j = 256 := by omega
                    go_wp2_with fail
                    go_roundw
                    case rel => exact ⟨k + 1, t0, t1, t2, by go_num, by go_num, HIN.out, by show _ ≤ _; have := HRK.out; have := HR.out; omega, K7.out, H7.out, B7.out⟩
                    case measure => simp [intOf]; omega


set_option maxRecDepth 100000 in
theorem readinFrames_lifted (os : Os) (started : os.Started) (H : Type) (enc : TypeId × Value → H) :
    ReturnsInHanded {} Tryd.checked os 7 .any (fun w args => (Rows.readinFramesSpec.pre enc Tryd.prog Tryd.f7 [] false w args ∧ laidMetH Tryd.prog laidV w) ∧ sizedMet enc Tryd.prog Tryd.f7 (OpenSpec.ofChange Rows.readinFramesSpec) false w args) (Rows.readinFramesSpec.post enc Tryd.prog Tryd.f7 false true false false) := by
  refine returnsInHanded_of_change_and (C := Tryd.checked) (X := fun w _ => laidMetH Tryd.prog laidV w) (fun _ _ _ hh h => h.of_heap hh) own started (by kernel_rfl) Tryd.func7
    (ChangeSpec.witness_shaped (enc := enc) (C := Tryd.checked) (os := os) (X := fun w _ => laidMetH Tryd.prog laidV w) false (World.doorLaid Tryd.prog 400 os) #[.int .i64 0, .slice none 0 0] 8 rfl (World.shaped_of_RefB (by kernel_rfl) (by kernel_rfl)) (by kernel_rfl) (by kernel_rfl) (by kernel_rfl) (door_met os _)) ?_
  intro W base args ds gs before hval0 hW hcnd _ hL _
  have hval : ∀ (j : Nat) t v, Tryd.f7.params[j]? = some t → args[j]? = some v → Value.okWide Tryd.prog W .any base t v := hval0
  have hW' := hW
  obtain ⟨p, q, hA0, hV, rfl, hfz, hnd⟩ := hW
  have hA : DataW.TrodAll enc Tryd.prog W 0 (fun _ => true) true Tryd.f7.params.toList args.toList ds p := hA0
  rw [Tryd.params7] at hA hval
  obtain ⟨v0, vs0, d0, ds0, p0, q0, hargs, rfl, rfl, h0, r0⟩ := trodAll_cons hA
  obtain ⟨v1, vs1, d1, ds1, p1, q1, rfl, rfl, rfl, h1, r1⟩ := trodAll_cons r0
  obtain ⟨rfl, rfl, rfl⟩ := trodAll_nil r1
  obtain rfl : args = #[v0, v1] := by cases args; simp_all
  obtain ⟨rfl, rfl⟩ := trodVars_none hV
  obtain ⟨a0, rfl, rfl, rfl, w0⟩ := open_int Tryd.underlying3 (hval 0 3 v0 rfl rfl) h0
  obtain ⟨A1, k1, a1, rfl, s1, w1, l1⟩ := open_slI Tryd.underlying32 Tryd.underlying3 (by kernel_rfl) (hval 1 32 v1 rfl rfl) h1
  clear hA0 hval0
  refine (readinFrames_walk a0 A1 k1 a1 W w0 s1 w1 l1 (of_laid hL)).mono fun e W' ⟨he, hb⟩ => ⟨_, he, ?_⟩
  exact law_post laidOut (s := Rows.readinFramesSpec) (B := 4) rfl rfl Tryd.underlying4 (by decide +kernel) hW' rfl hb

theorem readinFrames_holds : Rows.ReadinFramesSaid :=
  OpenClaim.holds_of_wide 7 Tryd.f7 rfl rfl rfl rfl rfl rfl rfl ⟨rfl, rfl, rfl, rfl, rfl⟩ rfl rfl rfl rfl rfl (by kernel_rfl) Tryd.func7 (by kernel_rfl)
    (of_decide_eq_true (by kernel_rfl)) (by unfold Func.isWrapper; first | (rw [if_pos (by decide +kernel)]; kernel_rfl) | (rw [if_neg (by decide +kernel)]; exact ⟨rfl, rfl⟩))
    (fun os started H enc _ => readinFrames_lifted os started H enc)

theorem readinFrames_card : Rows.ReadinFramesCardSaid :=
  Claim7.holds_tied_plain_at .later [] [.data] true Rows.readinFramesCard.stood.harness false
    readinFrames_holds (fun _ h => by cases h) (by kernel_rfl) (fun _ h => by cases h) readinFrames_row_tie rfl ⟨rfl, rfl⟩ (by kernel_rfl) rfl
    (fun f fn hf hfn => by
      obtain rfl : f = 7 := Option.some.inj ((show Tryd.prog.funcNamed "headgate/headgatelaw21.ReadinFrames" = some 7 by kernel_rfl).symm.trans hf) |>.symm
      obtain rfl : fn = Tryd.f7 := (Option.some.inj (Tryd.func7.symm.trans hfn)).symm
      exact ⟨by kernel_rfl, fun j t ht => by
        have hall : (Tryd.f7.params.toList.all fun u => !Tryd.prog.wantsStandIn u) = true := by kernel_rfl
        have hm : t ∈ Tryd.f7.params.toList := by simpa using Array.mem_of_getElem? ht
        exact (show Tryd.prog.wantsStandIn t = false by simpa using List.all_eq_true.1 hall t hm)⟩)
    (by kernel_rfl)

end Go.Proofs.YtngenoblifhnpaaDoor
