/- The reference's Ranks, Victim (34). Written by gen_or3.py. No statement is proved here. -/
import Derived.Test.YtmbpjafiinfkkaaGreatDoorOR2
import Derived.Test.YtmbpjafiinfkkaaGreatDoorOM2
namespace Go.Proofs.YtmbpjafiinfkkaaGreatDoor
set_option linter.unusedSimpArgs false
set_option linter.unusedVariables false
open Go.RowKit Go.Maps

/-- The candidates in their order. -/
structure RkS (l : List PV) (sp : List Int) (S : List C2) : Prop where
  asc : S.Pairwise fun x y => ltC y x = false
  mem : ∀ x, x ∈ S ↔ candF l sp l.length x.1 = some x.2
  nd : (S.map (·.1)).Nodup
  len : S.length ≤ l.length
theorem rkS_of (l : List PV) (sp : List Int) : RkS l sp (srtC (candL l sp)) :=
  ⟨srtC_asc _, fun x => by rw [srtC_mem, candL_mem], by
    have h1 : ((candL l sp).map (·.1)).Nodup := (candL_keys l sp).imp fun {a b} h e => by omega
    have h2 : (srtC (candL l sp)).Perm (candL l sp) := by unfold srtC; exact List.mergeSort_perm _ _
    exact (h2.map (·.1)).nodup_iff.2 h1, by rw [srtC_len]; exact candL_len l sp⟩
theorem RkS.rng {l : List PV} {sp : List Int} {S : List C2} (h : RkS l sp S) {x : C2} (hx : x ∈ S) : 1 ≤ x.1 ∧ x.1 ≤ l.length ∧ (scsL l)[(x.1 - 1).toNat]? = some x.2 := by
  have h1 := (h.mem x).1 hx
  unfold candF at h1
  split at h1
  · rename_i h2
    refine ⟨h2.1, h2.2, ?_⟩
    unfold candAt at h1
    unfold scsL
    rw [List.getElem?_map]
    split at h1
    · rename_i p hp
      rw [hp]
      split at h1
      · simpa using h1
      · simp at h1
    · simp at h1
  · cases h1
theorem RkS.one {l : List PV} {sp : List Int} {S : List C2} (h : RkS l sp S) {x y : C2} (hx : x ∈ S) (hy : y ∈ S) (e : x.1 = y.1) : x = y := by
  have h1 := (h.mem x).1 hx
  have h2 := (h.mem y).1 hy
  rw [e, h2] at h1
  injection h1 with h1
  exact Prod.ext e h1.symm
theorem RkS.drop {l : List PV} {sp : List Int} {S : List C2} (h : RkS l sp S) (k : Nat) (x : C2) : x ∈ S.drop k ↔ x ∈ S ∧ x.1 ∉ (S.take k).map (·.1) := by
  have hnd := h.nd
  rw [← List.take_append_drop k S, List.map_append] at hnd
  have hd := (List.nodup_append.1 hnd).2.2
  constructor
  · intro hx
    exact ⟨List.mem_of_mem_drop hx, fun hm => hd _ hm _ (List.mem_map.2 ⟨x, hx, rfl⟩) rfl⟩
  · rintro ⟨hx, hn⟩
    rw [← List.take_append_drop k S] at hx
    rcases List.mem_append.1 hx with h1 | h1
    · exact absurd (List.mem_map.2 ⟨x, h1, rfl⟩) hn
    · exact h1
theorem cand_in {l : List PV} {sp : List Int} {j : Nat} {p : PV} (hp : l[j]? = some p) (h0 : p.st ≠ 0) (h1 : ((j : Int) + 1) ∉ sp) : candF l sp l.length ((j : Int) + 1) = some (scoN p.es) := by
  have hj := (List.getElem?_eq_some_iff.1 hp).1
  unfold candF candAt
  rw [if_pos (by omega), show ((j : Int) + 1 - 1).toNat = j by omega, hp]
  simp [h0, h1]
theorem cand_out {l : List PV} {sp : List Int} {j : Nat} {p : PV} (hp : l[j]? = some p) (h : p.st = 0 ∨ ((j : Int) + 1) ∈ sp) : candF l sp l.length ((j : Int) + 1) = none := by
  have hj := (List.getElem?_eq_some_iff.1 hp).1
  unfold candF candAt
  rw [if_pos (by omega), show ((j : Int) + 1 - 1).toNat = j by omega, hp]
  rcases h with h | h <;> simp [h]
/-- Where the search for the next one stands: the best of the first j. -/
def BestOk (S : List C2) (k j : Nat) (best : Int) : Prop :=
  (best = 0 ∧ ∀ x ∈ S.drop k, ¬ x.1 ≤ j) ∨ (∃ m, m ∈ S.drop k ∧ m.1 = best ∧ m.1 ≤ j ∧ ∀ y ∈ S.drop k, y.1 ≤ j → ltC y m = false)
section
variable {l : List PV} {sp : List Int} {S : List C2} {k j : Nat} {b : Int}
theorem BestOk.start (h : RkS l sp S) : BestOk S k 0 0 := .inl ⟨rfl, fun x hx => by have := (h.rng (List.mem_of_mem_drop hx)).1; omega⟩
theorem BestOk.skip (hb : BestOk S k j b) (hn : ∀ x ∈ S.drop k, x.1 ≠ (j : Int) + 1) : BestOk S k (j + 1) b := by
  rcases hb with ⟨e, h⟩ | ⟨m, h1, h2, h3, h4⟩
  · exact .inl ⟨e, fun x hx => by have := h x hx; have := hn x hx; omega⟩
  · exact .inr ⟨m, h1, h2, by omega, fun y hy hy2 => h4 y hy (by have := hn y hy; omega)⟩
theorem BestOk.skip1 (hS : RkS l sp S) (hb : BestOk S k j b) {p : PV} (hp : l[j]? = some p) (h : p.st = 0 ∨ ((j : Int) + 1) ∈ sp) : BestOk S k (j + 1) b :=
  hb.skip fun x hx e => by
    have := (hS.mem x).1 (List.mem_of_mem_drop hx)
    rw [e, cand_out hp h] at this
    cases this
theorem BestOk.skip2 (hS : RkS l sp S) (hb : BestOk S k j b) (h : ((j : Int) + 1) ∈ (S.take k).map (·.1)) : BestOk S k (j + 1) b :=
  hb.skip fun x hx e => ((hS.drop k x).1 hx).2 (by rw [e]; exact h)
theorem BestOk.now (hS : RkS l sp S) {p : PV} (hp : l[j]? = some p) (h0 : p.st ≠ 0) (h1 : ((j : Int) + 1) ∉ sp) (h2 : ((j : Int) + 1) ∉ (S.take k).map (·.1)) : (((j : Int) + 1, scoN p.es) : C2) ∈ S.drop k :=
  (hS.drop k _).2 ⟨(hS.mem _).2 (cand_in hp h0 h1), h2⟩
theorem BestOk.first (hS : RkS l sp S) (hb : BestOk S k j 0) {p : PV} (hp : l[j]? = some p) (h0 : p.st ≠ 0) (h1 : ((j : Int) + 1) ∉ sp) (h2 : ((j : Int) + 1) ∉ (S.take k).map (·.1)) : BestOk S k (j + 1) ((j : Int) + 1) := by
  rcases hb with ⟨_, h⟩ | ⟨m, h3, h4, _, _⟩
  · refine .inr ⟨_, BestOk.now hS hp h0 h1 h2, rfl, by simp, fun y hy hy2 => ?_⟩
    have := h y hy
    have e := hS.one (List.mem_of_mem_drop hy) (List.mem_of_mem_drop (BestOk.now hS hp h0 h1 h2)) (show y.1 = (j : Int) + 1 by omega)
    rw [e, ltC_false]
    omega
  · have := (hS.rng (List.mem_of_mem_drop h3)).1; omega
theorem BestOk.score (hS : RkS l sp S) (hb : BestOk S k j b) (hn : b ≠ 0) : 1 ≤ b ∧ b ≤ j ∧ ∃ s, (scsL l)[(b - 1).toNat]? = some s ∧ (b, s) ∈ S.drop k ∧ ∀ y ∈ S.drop k, y.1 ≤ j → ltC y (b, s) = false := by
  rcases hb with ⟨e, _⟩ | ⟨m, h3, h4, h5, h6⟩
  · exact absurd e hn
  · have hr := hS.rng (List.mem_of_mem_drop h3)
    subst h4
    exact ⟨hr.1, h5, m.2, hr.2.2, h3, h6⟩
theorem BestOk.more (hS : RkS l sp S) (hb : BestOk S k j b) (hn : b ≠ 0) {s : Int} (hs : (scsL l)[(b - 1).toNat]? = some s) {p : PV} (hp : l[j]? = some p) (h0 : p.st ≠ 0) (h1 : ((j : Int) + 1) ∉ sp) (h2 : ((j : Int) + 1) ∉ (S.take k).map (·.1)) (hlt : s < scoN p.es) : BestOk S k (j + 1) ((j : Int) + 1) := by
  obtain ⟨_, _, s', e, hm, h6⟩ := hb.score hS hn
  rw [hs] at e
  injection e with e
  subst e
  refine .inr ⟨_, BestOk.now hS hp h0 h1 h2, rfl, by simp, fun y hy hy2 => ?_⟩
  by_cases hy3 : y.1 ≤ j
  · have := (ltC_false _ _).1 (h6 y hy hy3)
    rw [ltC_false]
    simp only at this ⊢
    omega
  · have e := hS.one (List.mem_of_mem_drop hy) (List.mem_of_mem_drop (BestOk.now hS hp h0 h1 h2)) (show y.1 = (j : Int) + 1 by omega)
    rw [e, ltC_false]
    omega
theorem BestOk.less (hS : RkS l sp S) (hb : BestOk S k j b) (hn : b ≠ 0) {s : Int} (hs : (scsL l)[(b - 1).toNat]? = some s) {p : PV} (hp : l[j]? = some p) (hlt : ¬ s < scoN p.es) : BestOk S k (j + 1) b := by
  obtain ⟨hb1, hb2, s', e, hm, h6⟩ := hb.score hS hn
  rw [hs] at e
  injection e with e
  subst e
  refine .inr ⟨(b, s), hm, rfl, by simp; omega, fun y hy hy2 => ?_⟩
  by_cases hy3 : y.1 ≤ j
  · exact h6 y hy hy3
  · have hy1 := hS.rng (List.mem_of_mem_drop hy)
    have e1 : (y.1 - 1).toNat = j := by omega
    have e2 := hy1.2.2
    rw [e1] at e2
    unfold scsL at e2
    rw [List.getElem?_map, hp] at e2
    simp at e2
    rw [ltC_false]
    simp only
    omega
theorem BestOk.none_ (hS : RkS l sp S) (hb : BestOk S k l.length 0) : S.length ≤ k := by
  rcases hb with ⟨_, h⟩ | ⟨m, h3, h4, _, _⟩
  · cases hd : S.drop k with
    | nil => have := congrArg List.length hd; simp at this; omega
    | cons x t =>
      have hx : x ∈ S.drop k := by rw [hd]; simp
      have := h x hx
      have := (hS.rng (List.mem_of_mem_drop hx)).2.1
      omega
  · have := (hS.rng (List.mem_of_mem_drop h3)).1; omega
theorem BestOk.next (hS : RkS l sp S) (hb : BestOk S k l.length b) (hn : b ≠ 0) : ∃ s, S[k]? = some (b, s) := by
  obtain ⟨_, _, s, _, hm, h6⟩ := hb.score hS hn
  exact ⟨s, srt_next hS.asc hm fun y hy => h6 y hy (hS.rng (List.mem_of_mem_drop hy)).2.1⟩
end
def slN : Value → Nat
  | .slice _ n _ => n
  | _ => 0

set_option maxRecDepth 100000 in
set_option maxHeartbeats 16000000 in
theorem rRanks_any (A : Option Addr) (c : Nat) (l : List PV) (B : Option Addr) (d : Nat) (sp : List Int) (w : World) (hs : SR procE w A l) (ll : l.length ≤ 1000) (hp : Sl w (.int .i64) B sp) (lp : sp.length ≤ 1000) :
    Calls Tryz.prog 19 #[.slice A l.length c, .slice B sp.length d] w (RnkPost l sp w) := by
  have hS := rScores_any A c l w hs ll
  unfold ScrPost at hS
  by_cases h0 : scrE l = 0
  · rw [h0] at hS
    obtain ⟨n1, n8⟩ := scrE_ok h0
    have HK : RkS l sp (srtC (candL l sp)) := rkS_of l sp
    have HP : ∀ (S : List C2) e w' A c, srtC (candL l sp) = S → spB l.length sp = false → e = .returned (.tuple #[.slice A S.length c, .int .i64 0]) → Sl w' (.int .i64) A (S.map (·.1)) → Below w.heap.size w w' → RnkPost l sp w e w' := fun S e' w' A' c' hS h2 he hsl hb => by
      have hr : rnkE l sp = 0 := by unfold rnkE; rw [if_pos h0, h2]; rfl
      have hl : rnkL l sp = S.map (·.1) := by unfold rnkL; rw [hS]
      unfold RnkPost
      rw [hr, hl, List.length_map]
      exact ⟨⟨A', c', he, fun _ => hsl⟩, hb⟩
    have HX : ∀ e w' A c, spB l.length sp = true → e = .returned (.tuple #[.slice A 0 c, .int .i64 2]) → Below w.heap.size w w' → RnkPost l sp w e w' := fun e' w' A' c' h2 he hb => by
      have hr : rnkE l sp = 2 := by unfold rnkE; rw [if_pos h0, h2]; rfl
      unfold RnkPost
      rw [hr]
      exact ⟨⟨A', c', he, fun h => by cases h⟩, hb⟩
    obtain ⟨S, hSS⟩ : ∃ S, srtC (candL l sp) = S := ⟨_, rfl⟩
    rw [hSS] at HK
    have hSl := HK.len
    have HKK := Lib.hid HK
    have HSS := Lib.hid hSS
    have HS := Lib.hid hs
    have HB := Lib.hid hp
    clear HK hSS hs hp h0
    go_enter Tryz.func19, Tryz.ntmps19
    go_wp2_with fail
    refine hS.mono ?_
    rintro e w1 ⟨⟨A2, c2, rfl, hsl⟩, hb1⟩
    have HC : Hid (Sl w1 (.int .i64) A2 (scsL l)) := hsl (by simp)
    have HSw : Hid (SR procE w1 A l) := HS.out.ext hb1
    have HBw : Hid (Sl w1 (.int .i64) B sp) := HB.out.ext hb1
    have zw1 := hb1.size
    clear hsl hS HS HB
    go_wp2
    go_loopw [8] (fun i wx => ∃ k : Nat, k ≤ sp.length ∧ i = .int .i64 k ∧ Hid (∀ y ∈ sp.take k, 1 ≤ y ∧ y ≤ (l.length : Int)) ∧ Below w1.heap.size w1 wx) (fun i _ => sp.length - (intOf i).toNat)
    case atStart => exact ⟨0, by omega, rfl, by show ∀ y ∈ _, _; simp, Below.refl _ _⟩
    case round =>
      obtain ⟨k, hk, rfl, HR, hbx⟩ := hrel
      have zwx := hbx.size
      by_cases hlt : k < sp.length
      · obtain ⟨b, off, x, rfl, hbl, hx, hc⟩ := (HBw.out.ext hbx).at_ hlt
        have i1 : (k : Int) < sp.length := by omega
        by_cases hr : 1 ≤ x ∧ x ≤ (l.length : Int)
        · have HN : Hid (∀ y ∈ sp.take (k + 1), 1 ≤ y ∧ y ≤ (l.length : Int)) := rangeT HR.out hx hr
          have g1 : ¬ x < 1 := by omega
          have g2 : ¬ (l.length : Int) < x := by omega
          clear hx HR hr
          go_wp2
          go_roundw
          case rel => exact ⟨k + 1, by omega, by go_num, HN.out, (by repeat' (first | with_reducible exact Below.refl _ _ | with_reducible assumption | with_reducible apply Below.drew | with_reducible apply below_drewN | with_reducible apply Below.alloc | with_reducible apply Below.setCell | (with_reducible refine Below.trans ?_ (Below.mono (by assumption) ?_)) | (simp; done) | (simp; omega) | omega | with_reducible apply le_size_alloc | with_reducible apply le_size_drewN | with_reducible apply le_size_drew | with_reducible apply le_size_setCell | refine Nat.le_trans ?_ (Below.size (by assumption))))⟩
          case measure => simp [intOf]; omega
        · have hbad : spB l.length sp = true := spB_take hx (by omega)
          have HBad := Lib.hid hbad
          clear hbad hx HR
          by_cases g1 : x < 1
          · clear hr
            go_wp2
            refine bodyPost_ret (v := .tuple #[.slice none 0 0, .int .i64 2]) (by simp [results, Tryz.results19, go_sem]) rfl ?_
            exact HX _ _ none 0 HBad.out rfl (hb1.trans ((show Below w1.heap.size w1 _ from (by repeat' (first | with_reducible exact Below.refl _ _ | with_reducible assumption | with_reducible apply Below.drew | with_reducible apply below_drewN | with_reducible apply Below.alloc | with_reducible apply Below.setCell | (with_reducible refine Below.trans ?_ (Below.mono (by assumption) ?_)) | (simp; done) | (simp; omega) | omega | with_reducible apply le_size_alloc | with_reducible apply le_size_drewN | with_reducible apply le_size_drew | with_reducible apply le_size_setCell | refine Nat.le_trans ?_ (Below.size (by assumption))))).mono zw1))
          · have g2 : (l.length : Int) < x := by omega
            clear hr
            go_wp2
            refine bodyPost_ret (v := .tuple #[.slice none 0 0, .int .i64 2]) (by simp [results, Tryz.results19, go_sem]) rfl ?_
            exact HX _ _ none 0 HBad.out rfl (hb1.trans ((show Below w1.heap.size w1 _ from (by repeat' (first | with_reducible exact Below.refl _ _ | with_reducible assumption | with_reducible apply Below.drew | with_reducible apply below_drewN | with_reducible apply Below.alloc | with_reducible apply Below.setCell | (with_reducible refine Below.trans ?_ (Below.mono (by assumption) ?_)) | (simp; done) | (simp; omega) | omega | with_reducible apply le_size_alloc | with_reducible apply le_size_drewN | with_reducible apply le_size_drew | with_reducible apply le_size_setCell | refine Nat.le_trans ?_ (Below.size (by assumption))))).mono zw1))
      · obtain rfl : k = sp.length := by omega
        have HG : Hid (spB l.length sp = false) := by have := HR.out; rw [List.take_length] at this; exact spB_all this
        clear HR hlt HX
        go_wp2
        go_loopw [9] (fun o wr => ∃ (k : Nat) (A : Option Addr) (c : Nat), k ≤ S.length ∧ o = .slice A k c ∧ Hid (OwnR intE wr w1.heap.size (.slice A k c) ((S.take k).map (·.1))) ∧ Below w1.heap.size w1 wr) (fun o _ => l.length - slN o)
        case atStart => exact ⟨0, none, 0, by omega, rfl, OwnR.nil, (by repeat' (first | with_reducible exact Below.refl _ _ | with_reducible assumption | with_reducible apply Below.drew | with_reducible apply below_drewN | with_reducible apply Below.alloc | with_reducible apply Below.setCell | (with_reducible refine Below.trans ?_ (Below.mono (by assumption) ?_)) | (simp; done) | (simp; omega) | omega | with_reducible apply le_size_alloc | with_reducible apply le_size_drewN | with_reducible apply le_size_drew | with_reducible apply le_size_setCell | refine Nat.le_trans ?_ (Below.size (by assumption))))⟩
        case round =>
          obtain ⟨k, A3, c3, hk, rfl, HO, hbr⟩ := hrel
          have zwr := hbr.size
          by_cases hlt : k < l.length
          · have i1 : (k : Int) < l.length := by omega
            have hl0 : ((S.take k).map (·.1)).length = k := by rw [List.length_map, List.length_take]; omega
            have hO : OwnR intE wr w1.heap.size (.slice A3 ((S.take k).map (·.1)).length c3) ((S.take k).map (·.1)) := by rw [hl0]; exact HO.out
            have hT : Sl wr (.int .i64) A3 ((S.take k).map (·.1)) := (OwnR.sr HO.out).2.sl
            have HT := Lib.hid hT
            have HOO := Lib.hid hO
            have HL0 := Lib.hid hl0
            clear hT hO HO hl0
            go_wp2
            obtain ⟨wo, rfl⟩ : ∃ wo, wo = wr := ⟨_, rfl⟩
            go_loopw [10, 11] (fun b i wq => ∃ (j : Nat) (best : Int), j ≤ l.length ∧ i = .int .i64 ((j : Int) + 1) ∧ b = .int .i64 best ∧ Hid (BestOk S k j best) ∧ Below wo.heap.size wo wq) (fun _ i _ => l.length + 1 - (intOf i).toNat)
            case atStart => exact ⟨0, 0, by omega, rfl, rfl, BestOk.start HKK.out, Below.refl _ _⟩
            case round =>
              obtain ⟨j, best, hj, rfl, rfl, HBO, hbq⟩ := hrel
              obtain ⟨wq, rfl⟩ : ∃ wq, wq = wr := ⟨_, rfl⟩
              have zwq := hbq.size
              have hbq1 : Below w1.heap.size w1 wq := hbr.trans (hbq.mono zwr)
              by_cases hjl : j < l.length
              · have i2 : (j : Int) + 1 ≤ l.length := by omega
                have i3 : (j : Int) < l.length := by omega
                have hwj : IntKind.i64.wrap (j : Int) = (j : Int) := IntWalk.i64_in _ (by omega)
                obtain ⟨bb, off, p, rfl, hbl, hpx, hR⟩ := proc_at (HSw.out.ext hbq1) hjl
                have hst : wq.cell? ⟨bb, off + j * 75, none⟩ = some (.int .i64 p.st) := by have := hR 0 _ (show (pvC p)[0]? = some (.int .i64 p.st) from rfl); simpa using this
                have HPX := Lib.hid hpx
                have hin1 : ∀ w, Below wq.heap.size wq w → Calls Tryz.prog 47 #[.slice B sp.length d, .int .i64 ((j : Int) + 1)] w fun e w' => e = .returned (.bool (decide (((j : Int) + 1) ∈ sp))) ∧ Below w.heap.size w w' := fun w hb => rin_any B d sp _ w ((HBw.out.ext hbq1).ext hb) lp
                have hin2 : ∀ w, Below wq.heap.size wq w → Calls Tryz.prog 47 #[.slice A3 k c3, .int .i64 ((j : Int) + 1)] w fun e w' => e = .returned (.bool (decide (((j : Int) + 1) ∈ (S.take k).map (·.1)))) ∧ Below w.heap.size w w' := fun w hb => by
                  have := rin_any A3 c3 ((S.take k).map (·.1)) ((j : Int) + 1) w ((HT.out.ext hbq).ext hb) (by rw [HL0.out]; omega)
                  rw [HL0.out] at this
                  exact this
                clear hR hpx
                by_cases h0 : p.st = 0
                · have HN : Hid (BestOk S k (j + 1) best) := BestOk.skip1 HKK.out HBO.out HPX.out (.inl h0)
                  have hb0' : (p.st != 0) = false := by simpa using h0
                  clear hin1 hin2 HBO h0
                  go_wp2_with fail
                  refine wp_region_chain (.is ?fa0 :: .is ?fa1 :: .is ?fa2 :: .is ?fa3 :: .is ?fa4 :: .is ?fa5 :: .is (.bool false) :: .is (.bool false) :: .is undef :: .is undef :: .is undef :: .is undef :: .is (.bool false) :: .is (.bool false) :: .is undef :: .is undef :: .is undef :: .is undef :: .is (.bool false) :: .is (.bool false) :: .is undef :: .is undef :: .is undef :: .is undef :: .is undef :: .is undef :: .is undef :: .is undef :: .is undef :: .is undef :: .is undef :: .is undef :: .is undef :: .is undef :: .is undef :: .is (.bool false) :: []) (by kernel_rfl) (by kernel_rfl) (by kernel_rfl) (lasts_is (lasts_is (lasts_is (lasts_is (lasts_is (lasts_is (lasts_is (lasts_is (lasts_is (lasts_is (lasts_is (lasts_is (lasts_is (lasts_is (lasts_is (lasts_is (lasts_is (lasts_is (lasts_is (lasts_is (lasts_is (lasts_is (lasts_is (lasts_is (lasts_is (lasts_is (lasts_is (lasts_is (lasts_is (lasts_is (lasts_is (lasts_is (lasts_is (lasts_is (lasts_is (lasts_is lasts_nil)))))))))))))))))))))))))))))))))))) (fun W0 hb0 hz0 => ?_)
                  rotate_left 6
                  refine chain_is (step_take (by rfl) ?ya0) ?ra0
                  case ya0 =>
                    intro w hbw hd
                    clear hd
                    go_simp
                    first | done | with_reducible rfl
                  (try simp only [Act.put, List.setIfInBounds_toArray, List.set_cons_zero, List.set_cons_succ, List.nil_append, List.cons_append])
                  refine chain_is (step_take (by rfl) ?ya1) ?ra1
                  case ya1 =>
                    intro w hbw hd
                    clear hd
                    go_simp
                    first | done | with_reducible rfl
                  (try simp only [Act.put, List.setIfInBounds_toArray, List.set_cons_zero, List.set_cons_succ, List.nil_append, List.cons_append])
                  refine chain_is (step_take (by rfl) ?ya2) ?ra2
                  case ya2 =>
                    intro w hbw hd
                    clear hd
                    go_simp
                    first | done | with_reducible rfl
                  (try simp only [Act.put, List.setIfInBounds_toArray, List.set_cons_zero, List.set_cons_succ, List.nil_append, List.cons_append])
                  refine chain_is (step_take (by rfl) ?ya3) ?ra3
                  case ya3 =>
                    intro w hbw hd
                    clear hd
                    go_simp
                    first | done | with_reducible rfl
                  (try simp only [Act.put, List.setIfInBounds_toArray, List.set_cons_zero, List.set_cons_succ, List.nil_append, List.cons_append])
                  refine chain_is (step_take (by rfl) ?ya4) ?ra4
                  case ya4 =>
                    intro w hbw hd
                    clear hd
                    go_simp
                    first | done | with_reducible rfl
                  (try simp only [Act.put, List.setIfInBounds_toArray, List.set_cons_zero, List.set_cons_succ, List.nil_append, List.cons_append])
                  refine chain_is (step_take (by rfl) ?ya5) ?ra5
                  case ya5 =>
                    intro w hbw hd
                    have q := cell_keep hbw (cell_keep hb0 hst hbl) (by rw [hz0]; exact hbl)
                    clear hd
                    go_simp
                    first | done | with_reducible rfl
                  (try simp only [Act.put, List.setIfInBounds_toArray, List.set_cons_zero, List.set_cons_succ, List.nil_append, List.cons_append])
                  refine chain_is (step_take (by rfl) ?ya6) ?ra6
                  case ya6 =>
                    intro w hbw hd
                    clear hd
                    go_simp
                    first | done | with_reducible rfl
                  (try simp only [Act.put, List.setIfInBounds_toArray, List.set_cons_zero, List.set_cons_succ, List.nil_append, List.cons_append])
                  refine chain_is (step_take (by rfl) ?ya7) ?ra7
                  case ya7 =>
                    intro w hbw hd
                    clear hd
                    go_simp
                    first | done | with_reducible rfl
                  (try simp only [Act.put, List.setIfInBounds_toArray, List.set_cons_zero, List.set_cons_succ, List.nil_append, List.cons_append])
                  refine chain_is (step_un (by rfl)) ?ra8
                  (try simp only [Act.put, List.setIfInBounds_toArray, List.set_cons_zero, List.set_cons_succ, List.nil_append, List.cons_append])
                  refine chain_is (step_un (by rfl)) ?ra9
                  (try simp only [Act.put, List.setIfInBounds_toArray, List.set_cons_zero, List.set_cons_succ, List.nil_append, List.cons_append])
                  refine chain_is (step_un (by rfl)) ?ra10
                  (try simp only [Act.put, List.setIfInBounds_toArray, List.set_cons_zero, List.set_cons_succ, List.nil_append, List.cons_append])
                  refine chain_is (step_un (by rfl)) ?ra11
                  (try simp only [Act.put, List.setIfInBounds_toArray, List.set_cons_zero, List.set_cons_succ, List.nil_append, List.cons_append])
                  refine chain_is (step_take (by rfl) ?ya12) ?ra12
                  case ya12 =>
                    intro w hbw hd
                    clear hd
                    go_simp
                    first | done | with_reducible rfl
                  (try simp only [Act.put, List.setIfInBounds_toArray, List.set_cons_zero, List.set_cons_succ, List.nil_append, List.cons_append])
                  refine chain_is (step_take (by rfl) ?ya13) ?ra13
                  case ya13 =>
                    intro w hbw hd
                    clear hd
                    go_simp
                    first | done | with_reducible rfl
                  (try simp only [Act.put, List.setIfInBounds_toArray, List.set_cons_zero, List.set_cons_succ, List.nil_append, List.cons_append])
                  refine chain_is (step_un (by rfl)) ?ra14
                  (try simp only [Act.put, List.setIfInBounds_toArray, List.set_cons_zero, List.set_cons_succ, List.nil_append, List.cons_append])
                  refine chain_is (step_un (by rfl)) ?ra15
                  (try simp only [Act.put, List.setIfInBounds_toArray, List.set_cons_zero, List.set_cons_succ, List.nil_append, List.cons_append])
                  refine chain_is (step_un (by rfl)) ?ra16
                  (try simp only [Act.put, List.setIfInBounds_toArray, List.set_cons_zero, List.set_cons_succ, List.nil_append, List.cons_append])
                  refine chain_is (step_un (by rfl)) ?ra17
                  (try simp only [Act.put, List.setIfInBounds_toArray, List.set_cons_zero, List.set_cons_succ, List.nil_append, List.cons_append])
                  refine chain_is (step_take (by rfl) ?ya18) ?ra18
                  case ya18 =>
                    intro w hbw hd
                    clear hd
                    go_simp
                    first | done | with_reducible rfl
                  (try simp only [Act.put, List.setIfInBounds_toArray, List.set_cons_zero, List.set_cons_succ, List.nil_append, List.cons_append])
                  refine chain_is (step_take (by rfl) ?ya19) ?ra19
                  case ya19 =>
                    intro w hbw hd
                    clear hd
                    go_simp
                    first | done | with_reducible rfl
                  (try simp only [Act.put, List.setIfInBounds_toArray, List.set_cons_zero, List.set_cons_succ, List.nil_append, List.cons_append])
                  refine chain_is (step_un (by rfl)) ?ra20
                  (try simp only [Act.put, List.setIfInBounds_toArray, List.set_cons_zero, List.set_cons_succ, List.nil_append, List.cons_append])
                  refine chain_is (step_un (by rfl)) ?ra21
                  (try simp only [Act.put, List.setIfInBounds_toArray, List.set_cons_zero, List.set_cons_succ, List.nil_append, List.cons_append])
                  refine chain_is (step_un (by rfl)) ?ra22
                  (try simp only [Act.put, List.setIfInBounds_toArray, List.set_cons_zero, List.set_cons_succ, List.nil_append, List.cons_append])
                  refine chain_is (step_un (by rfl)) ?ra23
                  (try simp only [Act.put, List.setIfInBounds_toArray, List.set_cons_zero, List.set_cons_succ, List.nil_append, List.cons_append])
                  refine chain_is (step_un (by rfl)) ?ra24
                  (try simp only [Act.put, List.setIfInBounds_toArray, List.set_cons_zero, List.set_cons_succ, List.nil_append, List.cons_append])
                  refine chain_is (step_un (by rfl)) ?ra25
                  (try simp only [Act.put, List.setIfInBounds_toArray, List.set_cons_zero, List.set_cons_succ, List.nil_append, List.cons_append])
                  refine chain_is (step_un (by rfl)) ?ra26
                  (try simp only [Act.put, List.setIfInBounds_toArray, List.set_cons_zero, List.set_cons_succ, List.nil_append, List.cons_append])
                  refine chain_is (step_un (by rfl)) ?ra27
                  (try simp only [Act.put, List.setIfInBounds_toArray, List.set_cons_zero, List.set_cons_succ, List.nil_append, List.cons_append])
                  refine chain_is (step_un (by rfl)) ?ra28
                  (try simp only [Act.put, List.setIfInBounds_toArray, List.set_cons_zero, List.set_cons_succ, List.nil_append, List.cons_append])
                  refine chain_is (step_un (by rfl)) ?ra29
                  (try simp only [Act.put, List.setIfInBounds_toArray, List.set_cons_zero, List.set_cons_succ, List.nil_append, List.cons_append])
                  refine chain_is (step_un (by rfl)) ?ra30
                  (try simp only [Act.put, List.setIfInBounds_toArray, List.set_cons_zero, List.set_cons_succ, List.nil_append, List.cons_append])
                  refine chain_is (step_un (by rfl)) ?ra31
                  (try simp only [Act.put, List.setIfInBounds_toArray, List.set_cons_zero, List.set_cons_succ, List.nil_append, List.cons_append])
                  refine chain_is (step_un (by rfl)) ?ra32
                  (try simp only [Act.put, List.setIfInBounds_toArray, List.set_cons_zero, List.set_cons_succ, List.nil_append, List.cons_append])
                  refine chain_is (step_un (by rfl)) ?ra33
                  (try simp only [Act.put, List.setIfInBounds_toArray, List.set_cons_zero, List.set_cons_succ, List.nil_append, List.cons_append])
                  refine chain_is (step_un (by rfl)) ?ra34
                  (try simp only [Act.put, List.setIfInBounds_toArray, List.set_cons_zero, List.set_cons_succ, List.nil_append, List.cons_append])
                  refine chain_is (step_take (by rfl) ?ya35) ?ra35
                  case ya35 =>
                    intro w hbw hd
                    clear hd
                    go_simp
                    first | done | with_reducible rfl
                  (try simp only [Act.put, List.setIfInBounds_toArray, List.set_cons_zero, List.set_cons_succ, List.nil_append, List.cons_append])
                  refine chain_end (fun wz hbz hd => ?_)
                  have hbx : Below wq.heap.size wq wz := hb0.trans (hbz.mono (by omega))
                  clear hd hbz hb0
                  go_wp2
                  go_roundw
                  case rel => exact ⟨j + 1, best, by omega, by go_num, rfl, HN.out, (by repeat' (first | with_reducible exact Below.refl _ _ | with_reducible assumption | with_reducible apply Below.drew | with_reducible apply below_drewN | with_reducible apply Below.alloc | with_reducible apply Below.setCell | (with_reducible refine Below.trans ?_ (Below.mono (by assumption) ?_)) | (simp; done) | (simp; omega) | omega | with_reducible apply le_size_alloc | with_reducible apply le_size_drewN | with_reducible apply le_size_drew | with_reducible apply le_size_setCell | refine Nat.le_trans ?_ (Below.size (by assumption))))⟩
                  case measure => simp [intOf]; omega
                · have hb0' : (p.st != 0) = true := by simpa using h0
                  have H0 := Lib.hid h0
                  clear h0
                  by_cases h1 : ((j : Int) + 1) ∈ sp
                  · have HN : Hid (BestOk S k (j + 1) best) := BestOk.skip1 HKK.out HBO.out HPX.out (.inr h1)
                    rw [decide_eq_true h1] at hin1
                    clear hin2 HBO h1
                    go_wp2_with fail
                    refine wp_region_chain (.is ?fb0 :: .is ?fb1 :: .is ?fb2 :: .is ?fb3 :: .is ?fb4 :: .is ?fb5 :: .is (.bool true) :: .is (.bool true) :: .is ?fb8 :: .is ?fb9 :: .is (.bool true) :: .is (.bool false) :: .is (.bool false) :: .is (.bool false) :: .is undef :: .is undef :: .is undef :: .is undef :: .is (.bool false) :: .is (.bool false) :: .is undef :: .is undef :: .is undef :: .is undef :: .is undef :: .is undef :: .is undef :: .is undef :: .is undef :: .is undef :: .is undef :: .is undef :: .is undef :: .is undef :: .is undef :: .is (.bool false) :: []) (by kernel_rfl) (by kernel_rfl) (by kernel_rfl) (lasts_is (lasts_is (lasts_is (lasts_is (lasts_is (lasts_is (lasts_is (lasts_is (lasts_is (lasts_is (lasts_is (lasts_is (lasts_is (lasts_is (lasts_is (lasts_is (lasts_is (lasts_is (lasts_is (lasts_is (lasts_is (lasts_is (lasts_is (lasts_is (lasts_is (lasts_is (lasts_is (lasts_is (lasts_is (lasts_is (lasts_is (lasts_is (lasts_is (lasts_is (lasts_is (lasts_is lasts_nil)))))))))))))))))))))))))))))))))))) (fun W0 hb0 hz0 => ?_)
                    rotate_left 8
                    refine chain_is (step_take (by rfl) ?yb0) ?rb0
                    case yb0 =>
                      intro w hbw hd
                      clear hd
                      go_simp
                      first | done | with_reducible rfl
                    (try simp only [Act.put, List.setIfInBounds_toArray, List.set_cons_zero, List.set_cons_succ, List.nil_append, List.cons_append])
                    refine chain_is (step_take (by rfl) ?yb1) ?rb1
                    case yb1 =>
                      intro w hbw hd
                      clear hd
                      go_simp
                      first | done | with_reducible rfl
                    (try simp only [Act.put, List.setIfInBounds_toArray, List.set_cons_zero, List.set_cons_succ, List.nil_append, List.cons_append])
                    refine chain_is (step_take (by rfl) ?yb2) ?rb2
                    case yb2 =>
                      intro w hbw hd
                      clear hd
                      go_simp
                      first | done | with_reducible rfl
                    (try simp only [Act.put, List.setIfInBounds_toArray, List.set_cons_zero, List.set_cons_succ, List.nil_append, List.cons_append])
                    refine chain_is (step_take (by rfl) ?yb3) ?rb3
                    case yb3 =>
                      intro w hbw hd
                      clear hd
                      go_simp
                      first | done | with_reducible rfl
                    (try simp only [Act.put, List.setIfInBounds_toArray, List.set_cons_zero, List.set_cons_succ, List.nil_append, List.cons_append])
                    refine chain_is (step_take (by rfl) ?yb4) ?rb4
                    case yb4 =>
                      intro w hbw hd
                      clear hd
                      go_simp
                      first | done | with_reducible rfl
                    (try simp only [Act.put, List.setIfInBounds_toArray, List.set_cons_zero, List.set_cons_succ, List.nil_append, List.cons_append])
                    refine chain_is (step_take (by rfl) ?yb5) ?rb5
                    case yb5 =>
                      intro w hbw hd
                      have q := cell_keep hbw (cell_keep hb0 hst hbl) (by rw [hz0]; exact hbl)
                      clear hd
                      go_simp
                      first | done | with_reducible rfl
                    (try simp only [Act.put, List.setIfInBounds_toArray, List.set_cons_zero, List.set_cons_succ, List.nil_append, List.cons_append])
                    refine chain_is (step_take (by rfl) ?yb6) ?rb6
                    case yb6 =>
                      intro w hbw hd
                      clear hd
                      go_simp
                      first | done | with_reducible rfl
                    (try simp only [Act.put, List.setIfInBounds_toArray, List.set_cons_zero, List.set_cons_succ, List.nil_append, List.cons_append])
                    refine chain_is (step_take (by rfl) ?yb7) ?rb7
                    case yb7 =>
                      intro w hbw hd
                      clear hd
                      go_simp
                      first | done | with_reducible rfl
                    (try simp only [Act.put, List.setIfInBounds_toArray, List.set_cons_zero, List.set_cons_succ, List.nil_append, List.cons_append])
                    refine chain_is (step_take (by rfl) ?yb8) ?rb8
                    case yb8 =>
                      intro w hbw hd
                      clear hd
                      go_simp
                      first | done | with_reducible rfl
                    (try simp only [Act.put, List.setIfInBounds_toArray, List.set_cons_zero, List.set_cons_succ, List.nil_append, List.cons_append])
                    refine chain_is (step_take (by rfl) ?yb9) ?rb9
                    case yb9 =>
                      intro w hbw hd
                      clear hd
                      go_simp
                      first | done | with_reducible rfl
                    (try simp only [Act.put, List.setIfInBounds_toArray, List.set_cons_zero, List.set_cons_succ, List.nil_append, List.cons_append])
                    refine chain_is ?sb10 ?rb10
                    case sb10 =>
                      intro w hbw hd K Q' hK
                      clear hd
                      go_simp
                      (go_at_call 47; refine (hin1 _ (hb0.trans (hbw.mono (by omega)))).mono ?_; rintro e w' ⟨rfl, hbe⟩)
                      refine hK.out (.bool true) _ _ ?_ ?_ rfl
                      · (simp only [Act.put, List.setIfInBounds_toArray, List.set_cons_zero, List.set_cons_succ, List.nil_append, List.cons_append])
                      · exact (by repeat' (first | with_reducible exact Below.refl _ _ | with_reducible assumption | with_reducible apply Below.drew | with_reducible apply below_drewN | with_reducible apply Below.alloc | with_reducible apply Below.setCell | (with_reducible refine Below.trans ?_ (Below.mono (by assumption) ?_)) | (simp; done) | (simp; omega) | omega | with_reducible apply le_size_alloc | with_reducible apply le_size_drewN | with_reducible apply le_size_drew | with_reducible apply le_size_setCell | with_reducible refine Nat.le_trans ?_ (Below.size (by assumption))))
                    (try simp only [Act.put, List.setIfInBounds_toArray, List.set_cons_zero, List.set_cons_succ, List.nil_append, List.cons_append])
                    refine chain_is (step_take (by rfl) ?yb11) ?rb11
                    case yb11 =>
                      intro w hbw hd
                      clear hd
                      go_simp
                      first | done | with_reducible rfl
                    (try simp only [Act.put, List.setIfInBounds_toArray, List.set_cons_zero, List.set_cons_succ, List.nil_append, List.cons_append])
                    refine chain_is (step_take (by rfl) ?yb12) ?rb12
                    case yb12 =>
                      intro w hbw hd
                      clear hd
                      go_simp
                      first | done | with_reducible rfl
                    (try simp only [Act.put, List.setIfInBounds_toArray, List.set_cons_zero, List.set_cons_succ, List.nil_append, List.cons_append])
                    refine chain_is (step_take (by rfl) ?yb13) ?rb13
                    case yb13 =>
                      intro w hbw hd
                      clear hd
                      go_simp
                      first | done | with_reducible rfl
                    (try simp only [Act.put, List.setIfInBounds_toArray, List.set_cons_zero, List.set_cons_succ, List.nil_append, List.cons_append])
                    refine chain_is (step_un (by rfl)) ?rb14
                    (try simp only [Act.put, List.setIfInBounds_toArray, List.set_cons_zero, List.set_cons_succ, List.nil_append, List.cons_append])
                    refine chain_is (step_un (by rfl)) ?rb15
                    (try simp only [Act.put, List.setIfInBounds_toArray, List.set_cons_zero, List.set_cons_succ, List.nil_append, List.cons_append])
                    refine chain_is (step_un (by rfl)) ?rb16
                    (try simp only [Act.put, List.setIfInBounds_toArray, List.set_cons_zero, List.set_cons_succ, List.nil_append, List.cons_append])
                    refine chain_is (step_un (by rfl)) ?rb17
                    (try simp only [Act.put, List.setIfInBounds_toArray, List.set_cons_zero, List.set_cons_succ, List.nil_append, List.cons_append])
                    refine chain_is (step_take (by rfl) ?yb18) ?rb18
                    case yb18 =>
                      intro w hbw hd
                      clear hd
                      go_simp
                      first | done | with_reducible rfl
                    (try simp only [Act.put, List.setIfInBounds_toArray, List.set_cons_zero, List.set_cons_succ, List.nil_append, List.cons_append])
                    refine chain_is (step_take (by rfl) ?yb19) ?rb19
                    case yb19 =>
                      intro w hbw hd
                      clear hd
                      go_simp
                      first | done | with_reducible rfl
                    (try simp only [Act.put, List.setIfInBounds_toArray, List.set_cons_zero, List.set_cons_succ, List.nil_append, List.cons_append])
                    refine chain_is (step_un (by rfl)) ?rb20
                    (try simp only [Act.put, List.setIfInBounds_toArray, List.set_cons_zero, List.set_cons_succ, List.nil_append, List.cons_append])
                    refine chain_is (step_un (by rfl)) ?rb21
                    (try simp only [Act.put, List.setIfInBounds_toArray, List.set_cons_zero, List.set_cons_succ, List.nil_append, List.cons_append])
                    refine chain_is (step_un (by rfl)) ?rb22
                    (try simp only [Act.put, List.setIfInBounds_toArray, List.set_cons_zero, List.set_cons_succ, List.nil_append, List.cons_append])
                    refine chain_is (step_un (by rfl)) ?rb23
                    (try simp only [Act.put, List.setIfInBounds_toArray, List.set_cons_zero, List.set_cons_succ, List.nil_append, List.cons_append])
                    refine chain_is (step_un (by rfl)) ?rb24
                    (try simp only [Act.put, List.setIfInBounds_toArray, List.set_cons_zero, List.set_cons_succ, List.nil_append, List.cons_append])
                    refine chain_is (step_un (by rfl)) ?rb25
                    (try simp only [Act.put, List.setIfInBounds_toArray, List.set_cons_zero, List.set_cons_succ, List.nil_append, List.cons_append])
                    refine chain_is (step_un (by rfl)) ?rb26
                    (try simp only [Act.put, List.setIfInBounds_toArray, List.set_cons_zero, List.set_cons_succ, List.nil_append, List.cons_append])
                    refine chain_is (step_un (by rfl)) ?rb27
                    (try simp only [Act.put, List.setIfInBounds_toArray, List.set_cons_zero, List.set_cons_succ, List.nil_append, List.cons_append])
                    refine chain_is (step_un (by rfl)) ?rb28
                    (try simp only [Act.put, List.setIfInBounds_toArray, List.set_cons_zero, List.set_cons_succ, List.nil_append, List.cons_append])
                    refine chain_is (step_un (by rfl)) ?rb29
                    (try simp only [Act.put, List.setIfInBounds_toArray, List.set_cons_zero, List.set_cons_succ, List.nil_append, List.cons_append])
                    refine chain_is (step_un (by rfl)) ?rb30
                    (try simp only [Act.put, List.setIfInBounds_toArray, List.set_cons_zero, List.set_cons_succ, List.nil_append, List.cons_append])
                    refine chain_is (step_un (by rfl)) ?rb31
                    (try simp only [Act.put, List.setIfInBounds_toArray, List.set_cons_zero, List.set_cons_succ, List.nil_append, List.cons_append])
                    refine chain_is (step_un (by rfl)) ?rb32
                    (try simp only [Act.put, List.setIfInBounds_toArray, List.set_cons_zero, List.set_cons_succ, List.nil_append, List.cons_append])
                    refine chain_is (step_un (by rfl)) ?rb33
                    (try simp only [Act.put, List.setIfInBounds_toArray, List.set_cons_zero, List.set_cons_succ, List.nil_append, List.cons_append])
                    refine chain_is (step_un (by rfl)) ?rb34
                    (try simp only [Act.put, List.setIfInBounds_toArray, List.set_cons_zero, List.set_cons_succ, List.nil_append, List.cons_append])
                    refine chain_is (step_take (by rfl) ?yb35) ?rb35
                    case yb35 =>
                      intro w hbw hd
                      clear hd
                      go_simp
                      first | done | with_reducible rfl
                    (try simp only [Act.put, List.setIfInBounds_toArray, List.set_cons_zero, List.set_cons_succ, List.nil_append, List.cons_append])
                    refine chain_end (fun wz hbz hd => ?_)
                    have hbx : Below wq.heap.size wq wz := hb0.trans (hbz.mono (by omega))
                    clear hd hbz hb0
                    go_wp2
                    go_roundw
                    case rel => exact ⟨j + 1, best, by omega, by go_num, rfl, HN.out, (by repeat' (first | with_reducible exact Below.refl _ _ | with_reducible assumption | with_reducible apply Below.drew | with_reducible apply below_drewN | with_reducible apply Below.alloc | with_reducible apply Below.setCell | (with_reducible refine Below.trans ?_ (Below.mono (by assumption) ?_)) | (simp; done) | (simp; omega) | omega | with_reducible apply le_size_alloc | with_reducible apply le_size_drewN | with_reducible apply le_size_drew | with_reducible apply le_size_setCell | refine Nat.le_trans ?_ (Below.size (by assumption))))⟩
                    case measure => simp [intOf]; omega
                  · rw [decide_eq_false h1] at hin1
                    have H1 := Lib.hid h1
                    clear h1
                    by_cases h2 : ((j : Int) + 1) ∈ (S.take k).map (·.1)
                    · have HN : Hid (BestOk S k (j + 1) best) := BestOk.skip2 HKK.out HBO.out h2
                      rw [decide_eq_true h2] at hin2
                      clear HBO h2
                      go_wp2_with fail
                      refine wp_region_chain (.is ?fc0 :: .is ?fc1 :: .is ?fc2 :: .is ?fc3 :: .is ?fc4 :: .is ?fc5 :: .is (.bool true) :: .is (.bool true) :: .is ?fc8 :: .is ?fc9 :: .is (.bool false) :: .is (.bool true) :: .is (.bool true) :: .is (.bool true) :: .is ?fc14 :: .is ?fc15 :: .is (.bool true) :: .is (.bool false) :: .is (.bool false) :: .is (.bool false) :: .is undef :: .is undef :: .is undef :: .is undef :: .is undef :: .is undef :: .is undef :: .is undef :: .is undef :: .is undef :: .is undef :: .is undef :: .is undef :: .is undef :: .is undef :: .is (.bool false) :: []) (by kernel_rfl) (by kernel_rfl) (by kernel_rfl) (lasts_is (lasts_is (lasts_is (lasts_is (lasts_is (lasts_is (lasts_is (lasts_is (lasts_is (lasts_is (lasts_is (lasts_is (lasts_is (lasts_is (lasts_is (lasts_is (lasts_is (lasts_is (lasts_is (lasts_is (lasts_is (lasts_is (lasts_is (lasts_is (lasts_is (lasts_is (lasts_is (lasts_is (lasts_is (lasts_is (lasts_is (lasts_is (lasts_is (lasts_is (lasts_is (lasts_is lasts_nil)))))))))))))))))))))))))))))))))))) (fun W0 hb0 hz0 => ?_)
                      rotate_left 10
                      refine chain_is (step_take (by rfl) ?yc0) ?rc0
                      case yc0 =>
                        intro w hbw hd
                        clear hd
                        go_simp
                        first | done | with_reducible rfl
                      (try simp only [Act.put, List.setIfInBounds_toArray, List.set_cons_zero, List.set_cons_succ, List.nil_append, List.cons_append])
                      refine chain_is (step_take (by rfl) ?yc1) ?rc1
                      case yc1 =>
                        intro w hbw hd
                        clear hd
                        go_simp
                        first | done | with_reducible rfl
                      (try simp only [Act.put, List.setIfInBounds_toArray, List.set_cons_zero, List.set_cons_succ, List.nil_append, List.cons_append])
                      refine chain_is (step_take (by rfl) ?yc2) ?rc2
                      case yc2 =>
                        intro w hbw hd
                        clear hd
                        go_simp
                        first | done | with_reducible rfl
                      (try simp only [Act.put, List.setIfInBounds_toArray, List.set_cons_zero, List.set_cons_succ, List.nil_append, List.cons_append])
                      refine chain_is (step_take (by rfl) ?yc3) ?rc3
                      case yc3 =>
                        intro w hbw hd
                        clear hd
                        go_simp
                        first | done | with_reducible rfl
                      (try simp only [Act.put, List.setIfInBounds_toArray, List.set_cons_zero, List.set_cons_succ, List.nil_append, List.cons_append])
                      refine chain_is (step_take (by rfl) ?yc4) ?rc4
                      case yc4 =>
                        intro w hbw hd
                        clear hd
                        go_simp
                        first | done | with_reducible rfl
                      (try simp only [Act.put, List.setIfInBounds_toArray, List.set_cons_zero, List.set_cons_succ, List.nil_append, List.cons_append])
                      refine chain_is (step_take (by rfl) ?yc5) ?rc5
                      case yc5 =>
                        intro w hbw hd
                        have q := cell_keep hbw (cell_keep hb0 hst hbl) (by rw [hz0]; exact hbl)
                        clear hd
                        go_simp
                        first | done | with_reducible rfl
                      (try simp only [Act.put, List.setIfInBounds_toArray, List.set_cons_zero, List.set_cons_succ, List.nil_append, List.cons_append])
                      refine chain_is (step_take (by rfl) ?yc6) ?rc6
                      case yc6 =>
                        intro w hbw hd
                        clear hd
                        go_simp
                        first | done | with_reducible rfl
                      (try simp only [Act.put, List.setIfInBounds_toArray, List.set_cons_zero, List.set_cons_succ, List.nil_append, List.cons_append])
                      refine chain_is (step_take (by rfl) ?yc7) ?rc7
                      case yc7 =>
                        intro w hbw hd
                        clear hd
                        go_simp
                        first | done | with_reducible rfl
                      (try simp only [Act.put, List.setIfInBounds_toArray, List.set_cons_zero, List.set_cons_succ, List.nil_append, List.cons_append])
                      refine chain_is (step_take (by rfl) ?yc8) ?rc8
                      case yc8 =>
                        intro w hbw hd
                        clear hd
                        go_simp
                        first | done | with_reducible rfl
                      (try simp only [Act.put, List.setIfInBounds_toArray, List.set_cons_zero, List.set_cons_succ, List.nil_append, List.cons_append])
                      refine chain_is (step_take (by rfl) ?yc9) ?rc9
                      case yc9 =>
                        intro w hbw hd
                        clear hd
                        go_simp
                        first | done | with_reducible rfl
                      (try simp only [Act.put, List.setIfInBounds_toArray, List.set_cons_zero, List.set_cons_succ, List.nil_append, List.cons_append])
                      refine chain_is ?sc10 ?rc10
                      case sc10 =>
                        intro w hbw hd K Q' hK
                        clear hd
                        go_simp
                        (go_at_call 47; refine (hin1 _ (hb0.trans (hbw.mono (by omega)))).mono ?_; rintro e w' ⟨rfl, hbe⟩)
                        refine hK.out (.bool false) _ _ ?_ ?_ rfl
                        · (simp only [Act.put, List.setIfInBounds_toArray, List.set_cons_zero, List.set_cons_succ, List.nil_append, List.cons_append])
                        · exact (by repeat' (first | with_reducible exact Below.refl _ _ | with_reducible assumption | with_reducible apply Below.drew | with_reducible apply below_drewN | with_reducible apply Below.alloc | with_reducible apply Below.setCell | (with_reducible refine Below.trans ?_ (Below.mono (by assumption) ?_)) | (simp; done) | (simp; omega) | omega | with_reducible apply le_size_alloc | with_reducible apply le_size_drewN | with_reducible apply le_size_drew | with_reducible apply le_size_setCell | with_reducible refine Nat.le_trans ?_ (Below.size (by assumption))))
                      (try simp only [Act.put, List.setIfInBounds_toArray, List.set_cons_zero, List.set_cons_succ, List.nil_append, List.cons_append])
                      refine chain_is (step_take (by rfl) ?yc11) ?rc11
                      case yc11 =>
                        intro w hbw hd
                        clear hd
                        go_simp
                        first | done | with_reducible rfl
                      (try simp only [Act.put, List.setIfInBounds_toArray, List.set_cons_zero, List.set_cons_succ, List.nil_append, List.cons_append])
                      refine chain_is (step_take (by rfl) ?yc12) ?rc12
                      case yc12 =>
                        intro w hbw hd
                        clear hd
                        go_simp
                        first | done | with_reducible rfl
                      (try simp only [Act.put, List.setIfInBounds_toArray, List.set_cons_zero, List.set_cons_succ, List.nil_append, List.cons_append])
                      refine chain_is (step_take (by rfl) ?yc13) ?rc13
                      case yc13 =>
                        intro w hbw hd
                        clear hd
                        go_simp
                        first | done | with_reducible rfl
                      (try simp only [Act.put, List.setIfInBounds_toArray, List.set_cons_zero, List.set_cons_succ, List.nil_append, List.cons_append])
                      refine chain_is (step_take (by rfl) ?yc14) ?rc14
                      case yc14 =>
                        intro w hbw hd
                        clear hd
                        go_simp
                        first | done | with_reducible rfl
                      (try simp only [Act.put, List.setIfInBounds_toArray, List.set_cons_zero, List.set_cons_succ, List.nil_append, List.cons_append])
                      refine chain_is (step_take (by rfl) ?yc15) ?rc15
                      case yc15 =>
                        intro w hbw hd
                        clear hd
                        go_simp
                        first | done | with_reducible rfl
                      (try simp only [Act.put, List.setIfInBounds_toArray, List.set_cons_zero, List.set_cons_succ, List.nil_append, List.cons_append])
                      refine chain_is ?sc16 ?rc16
                      case sc16 =>
                        intro w hbw hd K Q' hK
                        clear hd
                        go_simp
                        (go_at_call 47; refine (hin2 _ (hb0.trans (hbw.mono (by omega)))).mono ?_; rintro e w' ⟨rfl, hbe⟩)
                        refine hK.out (.bool true) _ _ ?_ ?_ rfl
                        · (simp only [Act.put, List.setIfInBounds_toArray, List.set_cons_zero, List.set_cons_succ, List.nil_append, List.cons_append])
                        · exact (by repeat' (first | with_reducible exact Below.refl _ _ | with_reducible assumption | with_reducible apply Below.drew | with_reducible apply below_drewN | with_reducible apply Below.alloc | with_reducible apply Below.setCell | (with_reducible refine Below.trans ?_ (Below.mono (by assumption) ?_)) | (simp; done) | (simp; omega) | omega | with_reducible apply le_size_alloc | with_reducible apply le_size_drewN | with_reducible apply le_size_drew | with_reducible apply le_size_setCell | with_reducible refine Nat.le_trans ?_ (Below.size (by assumption))))
                      (try simp only [Act.put, List.setIfInBounds_toArray, List.set_cons_zero, List.set_cons_succ, List.nil_append, List.cons_append])
                      refine chain_is (step_take (by rfl) ?yc17) ?rc17
                      case yc17 =>
                        intro w hbw hd
                        clear hd
                        go_simp
                        first | done | with_reducible rfl
                      (try simp only [Act.put, List.setIfInBounds_toArray, List.set_cons_zero, List.set_cons_succ, List.nil_append, List.cons_append])
                      refine chain_is (step_take (by rfl) ?yc18) ?rc18
                      case yc18 =>
                        intro w hbw hd
                        clear hd
                        go_simp
                        first | done | with_reducible rfl
                      (try simp only [Act.put, List.setIfInBounds_toArray, List.set_cons_zero, List.set_cons_succ, List.nil_append, List.cons_append])
                      refine chain_is (step_take (by rfl) ?yc19) ?rc19
                      case yc19 =>
                        intro w hbw hd
                        clear hd
                        go_simp
                        first | done | with_reducible rfl
                      (try simp only [Act.put, List.setIfInBounds_toArray, List.set_cons_zero, List.set_cons_succ, List.nil_append, List.cons_append])
                      refine chain_is (step_un (by rfl)) ?rc20
                      (try simp only [Act.put, List.setIfInBounds_toArray, List.set_cons_zero, List.set_cons_succ, List.nil_append, List.cons_append])
                      refine chain_is (step_un (by rfl)) ?rc21
                      (try simp only [Act.put, List.setIfInBounds_toArray, List.set_cons_zero, List.set_cons_succ, List.nil_append, List.cons_append])
                      refine chain_is (step_un (by rfl)) ?rc22
                      (try simp only [Act.put, List.setIfInBounds_toArray, List.set_cons_zero, List.set_cons_succ, List.nil_append, List.cons_append])
                      refine chain_is (step_un (by rfl)) ?rc23
                      (try simp only [Act.put, List.setIfInBounds_toArray, List.set_cons_zero, List.set_cons_succ, List.nil_append, List.cons_append])
                      refine chain_is (step_un (by rfl)) ?rc24
                      (try simp only [Act.put, List.setIfInBounds_toArray, List.set_cons_zero, List.set_cons_succ, List.nil_append, List.cons_append])
                      refine chain_is (step_un (by rfl)) ?rc25
                      (try simp only [Act.put, List.setIfInBounds_toArray, List.set_cons_zero, List.set_cons_succ, List.nil_append, List.cons_append])
                      refine chain_is (step_un (by rfl)) ?rc26
                      (try simp only [Act.put, List.setIfInBounds_toArray, List.set_cons_zero, List.set_cons_succ, List.nil_append, List.cons_append])
                      refine chain_is (step_un (by rfl)) ?rc27
                      (try simp only [Act.put, List.setIfInBounds_toArray, List.set_cons_zero, List.set_cons_succ, List.nil_append, List.cons_append])
                      refine chain_is (step_un (by rfl)) ?rc28
                      (try simp only [Act.put, List.setIfInBounds_toArray, List.set_cons_zero, List.set_cons_succ, List.nil_append, List.cons_append])
                      refine chain_is (step_un (by rfl)) ?rc29
                      (try simp only [Act.put, List.setIfInBounds_toArray, List.set_cons_zero, List.set_cons_succ, List.nil_append, List.cons_append])
                      refine chain_is (step_un (by rfl)) ?rc30
                      (try simp only [Act.put, List.setIfInBounds_toArray, List.set_cons_zero, List.set_cons_succ, List.nil_append, List.cons_append])
                      refine chain_is (step_un (by rfl)) ?rc31
                      (try simp only [Act.put, List.setIfInBounds_toArray, List.set_cons_zero, List.set_cons_succ, List.nil_append, List.cons_append])
                      refine chain_is (step_un (by rfl)) ?rc32
                      (try simp only [Act.put, List.setIfInBounds_toArray, List.set_cons_zero, List.set_cons_succ, List.nil_append, List.cons_append])
                      refine chain_is (step_un (by rfl)) ?rc33
                      (try simp only [Act.put, List.setIfInBounds_toArray, List.set_cons_zero, List.set_cons_succ, List.nil_append, List.cons_append])
                      refine chain_is (step_un (by rfl)) ?rc34
                      (try simp only [Act.put, List.setIfInBounds_toArray, List.set_cons_zero, List.set_cons_succ, List.nil_append, List.cons_append])
                      refine chain_is (step_take (by rfl) ?yc35) ?rc35
                      case yc35 =>
                        intro w hbw hd
                        clear hd
                        go_simp
                        first | done | with_reducible rfl
                      (try simp only [Act.put, List.setIfInBounds_toArray, List.set_cons_zero, List.set_cons_succ, List.nil_append, List.cons_append])
                      refine chain_end (fun wz hbz hd => ?_)
                      have hbx : Below wq.heap.size wq wz := hb0.trans (hbz.mono (by omega))
                      clear hd hbz hb0
                      go_wp2
                      go_roundw
                      case rel => exact ⟨j + 1, best, by omega, by go_num, rfl, HN.out, (by repeat' (first | with_reducible exact Below.refl _ _ | with_reducible assumption | with_reducible apply Below.drew | with_reducible apply below_drewN | with_reducible apply Below.alloc | with_reducible apply Below.setCell | (with_reducible refine Below.trans ?_ (Below.mono (by assumption) ?_)) | (simp; done) | (simp; omega) | omega | with_reducible apply le_size_alloc | with_reducible apply le_size_drewN | with_reducible apply le_size_drew | with_reducible apply le_size_setCell | refine Nat.le_trans ?_ (Below.size (by assumption))))⟩
                      case measure => simp [intOf]; omega
                    · rw [decide_eq_false h2] at hin2
                      have H2 := Lib.hid h2
                      clear h2
                      by_cases h3 : best = 0
                      · subst h3
                        have HN : Hid (BestOk S k (j + 1) ((j : Int) + 1)) := BestOk.first HKK.out HBO.out HPX.out H0.out H1.out H2.out
                        clear HBO
                        go_wp2_with fail
                        refine wp_region_chain (.is ?fd0 :: .is ?fd1 :: .is ?fd2 :: .is ?fd3 :: .is ?fd4 :: .is ?fd5 :: .is (.bool true) :: .is (.bool true) :: .is ?fd8 :: .is ?fd9 :: .is (.bool false) :: .is (.bool true) :: .is (.bool true) :: .is (.bool true) :: .is ?fd14 :: .is ?fd15 :: .is (.bool false) :: .is (.bool true) :: .is (.bool true) :: .is (.bool true) :: .is ?fd20 :: .is (.bool true) :: .is (.bool true) :: .is undef :: .is undef :: .is undef :: .is undef :: .is undef :: .is undef :: .is undef :: .is undef :: .is undef :: .is undef :: .is undef :: .is (.bool true) :: .is (.bool true) :: []) (by kernel_rfl) (by kernel_rfl) (by kernel_rfl) (lasts_is (lasts_is (lasts_is (lasts_is (lasts_is (lasts_is (lasts_is (lasts_is (lasts_is (lasts_is (lasts_is (lasts_is (lasts_is (lasts_is (lasts_is (lasts_is (lasts_is (lasts_is (lasts_is (lasts_is (lasts_is (lasts_is (lasts_is (lasts_is (lasts_is (lasts_is (lasts_is (lasts_is (lasts_is (lasts_is (lasts_is (lasts_is (lasts_is (lasts_is (lasts_is (lasts_is lasts_nil)))))))))))))))))))))))))))))))))))) (fun W0 hb0 hz0 => ?_)
                        rotate_left 11
                        refine chain_is (step_take (by rfl) ?yd0) ?rd0
                        case yd0 =>
                          intro w hbw hd
                          clear hd
                          go_simp
                          first | done | with_reducible rfl
                        (try simp only [Act.put, List.setIfInBounds_toArray, List.set_cons_zero, List.set_cons_succ, List.nil_append, List.cons_append])
                        refine chain_is (step_take (by rfl) ?yd1) ?rd1
                        case yd1 =>
                          intro w hbw hd
                          clear hd
                          go_simp
                          first | done | with_reducible rfl
                        (try simp only [Act.put, List.setIfInBounds_toArray, List.set_cons_zero, List.set_cons_succ, List.nil_append, List.cons_append])
                        refine chain_is (step_take (by rfl) ?yd2) ?rd2
                        case yd2 =>
                          intro w hbw hd
                          clear hd
                          go_simp
                          first | done | with_reducible rfl
                        (try simp only [Act.put, List.setIfInBounds_toArray, List.set_cons_zero, List.set_cons_succ, List.nil_append, List.cons_append])
                        refine chain_is (step_take (by rfl) ?yd3) ?rd3
                        case yd3 =>
                          intro w hbw hd
                          clear hd
                          go_simp
                          first | done | with_reducible rfl
                        (try simp only [Act.put, List.setIfInBounds_toArray, List.set_cons_zero, List.set_cons_succ, List.nil_append, List.cons_append])
                        refine chain_is (step_take (by rfl) ?yd4) ?rd4
                        case yd4 =>
                          intro w hbw hd
                          clear hd
                          go_simp
                          first | done | with_reducible rfl
                        (try simp only [Act.put, List.setIfInBounds_toArray, List.set_cons_zero, List.set_cons_succ, List.nil_append, List.cons_append])
                        refine chain_is (step_take (by rfl) ?yd5) ?rd5
                        case yd5 =>
                          intro w hbw hd
                          have q := cell_keep hbw (cell_keep hb0 hst hbl) (by rw [hz0]; exact hbl)
                          clear hd
                          go_simp
                          first | done | with_reducible rfl
                        (try simp only [Act.put, List.setIfInBounds_toArray, List.set_cons_zero, List.set_cons_succ, List.nil_append, List.cons_append])
                        refine chain_is (step_take (by rfl) ?yd6) ?rd6
                        case yd6 =>
                          intro w hbw hd
                          clear hd
                          go_simp
                          first | done | with_reducible rfl
                        (try simp only [Act.put, List.setIfInBounds_toArray, List.set_cons_zero, List.set_cons_succ, List.nil_append, List.cons_append])
                        refine chain_is (step_take (by rfl) ?yd7) ?rd7
                        case yd7 =>
                          intro w hbw hd
                          clear hd
                          go_simp
                          first | done | with_reducible rfl
                        (try simp only [Act.put, List.setIfInBounds_toArray, List.set_cons_zero, List.set_cons_succ, List.nil_append, List.cons_append])
                        refine chain_is (step_take (by rfl) ?yd8) ?rd8
                        case yd8 =>
                          intro w hbw hd
                          clear hd
                          go_simp
                          first | done | with_reducible rfl
                        (try simp only [Act.put, List.setIfInBounds_toArray, List.set_cons_zero, List.set_cons_succ, List.nil_append, List.cons_append])
                        refine chain_is (step_take (by rfl) ?yd9) ?rd9
                        case yd9 =>
                          intro w hbw hd
                          clear hd
                          go_simp
                          first | done | with_reducible rfl
                        (try simp only [Act.put, List.setIfInBounds_toArray, List.set_cons_zero, List.set_cons_succ, List.nil_append, List.cons_append])
                        refine chain_is ?sd10 ?rd10
                        case sd10 =>
                          intro w hbw hd K Q' hK
                          clear hd
                          go_simp
                          (go_at_call 47; refine (hin1 _ (hb0.trans (hbw.mono (by omega)))).mono ?_; rintro e w' ⟨rfl, hbe⟩)
                          refine hK.out (.bool false) _ _ ?_ ?_ rfl
                          · (simp only [Act.put, List.setIfInBounds_toArray, List.set_cons_zero, List.set_cons_succ, List.nil_append, List.cons_append])
                          · exact (by repeat' (first | with_reducible exact Below.refl _ _ | with_reducible assumption | with_reducible apply Below.drew | with_reducible apply below_drewN | with_reducible apply Below.alloc | with_reducible apply Below.setCell | (with_reducible refine Below.trans ?_ (Below.mono (by assumption) ?_)) | (simp; done) | (simp; omega) | omega | with_reducible apply le_size_alloc | with_reducible apply le_size_drewN | with_reducible apply le_size_drew | with_reducible apply le_size_setCell | with_reducible refine Nat.le_trans ?_ (Below.size (by assumption))))
                        (try simp only [Act.put, List.setIfInBounds_toArray, List.set_cons_zero, List.set_cons_succ, List.nil_append, List.cons_append])
                        refine chain_is (step_take (by rfl) ?yd11) ?rd11
                        case yd11 =>
                          intro w hbw hd
                          clear hd
                          go_simp
                          first | done | with_reducible rfl
                        (try simp only [Act.put, List.setIfInBounds_toArray, List.set_cons_zero, List.set_cons_succ, List.nil_append, List.cons_append])
                        refine chain_is (step_take (by rfl) ?yd12) ?rd12
                        case yd12 =>
                          intro w hbw hd
                          clear hd
                          go_simp
                          first | done | with_reducible rfl
                        (try simp only [Act.put, List.setIfInBounds_toArray, List.set_cons_zero, List.set_cons_succ, List.nil_append, List.cons_append])
                        refine chain_is (step_take (by rfl) ?yd13) ?rd13
                        case yd13 =>
                          intro w hbw hd
                          clear hd
                          go_simp
                          first | done | with_reducible rfl
                        (try simp only [Act.put, List.setIfInBounds_toArray, List.set_cons_zero, List.set_cons_succ, List.nil_append, List.cons_append])
                        refine chain_is (step_take (by rfl) ?yd14) ?rd14
                        case yd14 =>
                          intro w hbw hd
                          clear hd
                          go_simp
                          first | done | with_reducible rfl
                        (try simp only [Act.put, List.setIfInBounds_toArray, List.set_cons_zero, List.set_cons_succ, List.nil_append, List.cons_append])
                        refine chain_is (step_take (by rfl) ?yd15) ?rd15
                        case yd15 =>
                          intro w hbw hd
                          clear hd
                          go_simp
                          first | done | with_reducible rfl
                        (try simp only [Act.put, List.setIfInBounds_toArray, List.set_cons_zero, List.set_cons_succ, List.nil_append, List.cons_append])
                        refine chain_is ?sd16 ?rd16
                        case sd16 =>
                          intro w hbw hd K Q' hK
                          clear hd
                          go_simp
                          (go_at_call 47; refine (hin2 _ (hb0.trans (hbw.mono (by omega)))).mono ?_; rintro e w' ⟨rfl, hbe⟩)
                          refine hK.out (.bool false) _ _ ?_ ?_ rfl
                          · (simp only [Act.put, List.setIfInBounds_toArray, List.set_cons_zero, List.set_cons_succ, List.nil_append, List.cons_append])
                          · exact (by repeat' (first | with_reducible exact Below.refl _ _ | with_reducible assumption | with_reducible apply Below.drew | with_reducible apply below_drewN | with_reducible apply Below.alloc | with_reducible apply Below.setCell | (with_reducible refine Below.trans ?_ (Below.mono (by assumption) ?_)) | (simp; done) | (simp; omega) | omega | with_reducible apply le_size_alloc | with_reducible apply le_size_drewN | with_reducible apply le_size_drew | with_reducible apply le_size_setCell | with_reducible refine Nat.le_trans ?_ (Below.size (by assumption))))
                        (try simp only [Act.put, List.setIfInBounds_toArray, List.set_cons_zero, List.set_cons_succ, List.nil_append, List.cons_append])
                        refine chain_is (step_take (by rfl) ?yd17) ?rd17
                        case yd17 =>
                          intro w hbw hd
                          clear hd
                          go_simp
                          first | done | with_reducible rfl
                        (try simp only [Act.put, List.setIfInBounds_toArray, List.set_cons_zero, List.set_cons_succ, List.nil_append, List.cons_append])
                        refine chain_is (step_take (by rfl) ?yd18) ?rd18
                        case yd18 =>
                          intro w hbw hd
                          clear hd
                          go_simp
                          first | done | with_reducible rfl
                        (try simp only [Act.put, List.setIfInBounds_toArray, List.set_cons_zero, List.set_cons_succ, List.nil_append, List.cons_append])
                        refine chain_is (step_take (by rfl) ?yd19) ?rd19
                        case yd19 =>
                          intro w hbw hd
                          clear hd
                          go_simp
                          first | done | with_reducible rfl
                        (try simp only [Act.put, List.setIfInBounds_toArray, List.set_cons_zero, List.set_cons_succ, List.nil_append, List.cons_append])
                        refine chain_is (step_take (by rfl) ?yd20) ?rd20
                        case yd20 =>
                          intro w hbw hd
                          clear hd
                          go_simp
                          first | done | with_reducible rfl
                        (try simp only [Act.put, List.setIfInBounds_toArray, List.set_cons_zero, List.set_cons_succ, List.nil_append, List.cons_append])
                        refine chain_is (step_take (by rfl) ?yd21) ?rd21
                        case yd21 =>
                          intro w hbw hd
                          clear hd
                          go_simp
                          first | done | with_reducible rfl
                        (try simp only [Act.put, List.setIfInBounds_toArray, List.set_cons_zero, List.set_cons_succ, List.nil_append, List.cons_append])
                        refine chain_is (step_take (by rfl) ?yd22) ?rd22
                        case yd22 =>
                          intro w hbw hd
                          clear hd
                          go_simp
                          first | done | with_reducible rfl
                        (try simp only [Act.put, List.setIfInBounds_toArray, List.set_cons_zero, List.set_cons_succ, List.nil_append, List.cons_append])
                        refine chain_is (step_un (by rfl)) ?rd23
                        (try simp only [Act.put, List.setIfInBounds_toArray, List.set_cons_zero, List.set_cons_succ, List.nil_append, List.cons_append])
                        refine chain_is (step_un (by rfl)) ?rd24
                        (try simp only [Act.put, List.setIfInBounds_toArray, List.set_cons_zero, List.set_cons_succ, List.nil_append, List.cons_append])
                        refine chain_is (step_un (by rfl)) ?rd25
                        (try simp only [Act.put, List.setIfInBounds_toArray, List.set_cons_zero, List.set_cons_succ, List.nil_append, List.cons_append])
                        refine chain_is (step_un (by rfl)) ?rd26
                        (try simp only [Act.put, List.setIfInBounds_toArray, List.set_cons_zero, List.set_cons_succ, List.nil_append, List.cons_append])
                        refine chain_is (step_un (by rfl)) ?rd27
                        (try simp only [Act.put, List.setIfInBounds_toArray, List.set_cons_zero, List.set_cons_succ, List.nil_append, List.cons_append])
                        refine chain_is (step_un (by rfl)) ?rd28
                        (try simp only [Act.put, List.setIfInBounds_toArray, List.set_cons_zero, List.set_cons_succ, List.nil_append, List.cons_append])
                        refine chain_is (step_un (by rfl)) ?rd29
                        (try simp only [Act.put, List.setIfInBounds_toArray, List.set_cons_zero, List.set_cons_succ, List.nil_append, List.cons_append])
                        refine chain_is (step_un (by rfl)) ?rd30
                        (try simp only [Act.put, List.setIfInBounds_toArray, List.set_cons_zero, List.set_cons_succ, List.nil_append, List.cons_append])
                        refine chain_is (step_un (by rfl)) ?rd31
                        (try simp only [Act.put, List.setIfInBounds_toArray, List.set_cons_zero, List.set_cons_succ, List.nil_append, List.cons_append])
                        refine chain_is (step_un (by rfl)) ?rd32
                        (try simp only [Act.put, List.setIfInBounds_toArray, List.set_cons_zero, List.set_cons_succ, List.nil_append, List.cons_append])
                        refine chain_is (step_un (by rfl)) ?rd33
                        (try simp only [Act.put, List.setIfInBounds_toArray, List.set_cons_zero, List.set_cons_succ, List.nil_append, List.cons_append])
                        refine chain_is (step_take (by rfl) ?yd34) ?rd34
                        case yd34 =>
                          intro w hbw hd
                          clear hd
                          go_simp
                          first | done | with_reducible rfl
                        (try simp only [Act.put, List.setIfInBounds_toArray, List.set_cons_zero, List.set_cons_succ, List.nil_append, List.cons_append])
                        refine chain_is (step_take (by rfl) ?yd35) ?rd35
                        case yd35 =>
                          intro w hbw hd
                          clear hd
                          go_simp
                          first | done | with_reducible rfl
                        (try simp only [Act.put, List.setIfInBounds_toArray, List.set_cons_zero, List.set_cons_succ, List.nil_append, List.cons_append])
                        refine chain_end (fun wz hbz hd => ?_)
                        have hbx : Below wq.heap.size wq wz := hb0.trans (hbz.mono (by omega))
                        clear hd hbz hb0
                        go_wp2
                        go_roundw
                        case rel => exact ⟨j + 1, (j : Int) + 1, by omega, by go_num, rfl, HN.out, (by repeat' (first | with_reducible exact Below.refl _ _ | with_reducible assumption | with_reducible apply Below.drew | with_reducible apply below_drewN | with_reducible apply Below.alloc | with_reducible apply Below.setCell | (with_reducible refine Below.trans ?_ (Below.mono (by assumption) ?_)) | (simp; done) | (simp; omega) | omega | with_reducible apply le_size_alloc | with_reducible apply le_size_drewN | with_reducible apply le_size_drew | with_reducible apply le_size_setCell | refine Nat.le_trans ?_ (Below.size (by assumption))))⟩
                        case measure => simp [intOf]; omega
                      · obtain ⟨hb1', hb2', s, hs, _, _⟩ := HBO.out.score HKK.out h3
                        obtain ⟨m, rfl⟩ : ∃ m : Nat, best = (m : Int) + 1 := ⟨(best - 1).toNat, by omega⟩
                        have hb3 : (((m : Int) + 1) == 0) = false := by simp; omega
                        have e1 : ((m : Int) + 1 - 1).toNat = m := by omega
                        obtain ⟨bs, os, s1, rfl, hbs, hs1x, hs1⟩ := (HC.out.ext hbq1).at_ (show j < (scsL l).length by unfold scsL; rw [List.length_map]; exact hjl)
                        have es1 : s1 = scoN p.es := by
                          have := HPX.out
                          unfold scsL at hs1x
                          rw [List.getElem?_map, this] at hs1x
                          simpa using hs1x.symm
                        rw [e1] at hs
                        obtain ⟨bs', os', s2, ebs, _, hs2x, hs2⟩ := (HC.out.ext hbq1).at_ (show m < (scsL l).length by exact (List.getElem?_eq_some_iff.1 hs).1)
                        injection ebs with ebs
                        injection ebs with ebs1 ebs2 _
                        subst ebs1 ebs2
                        rw [hs] at hs2x
                        injection hs2x with hs2x
                        subst hs2x
                        have hml : (m : Int) < l.length := by omega
                        have hwm : IntKind.i64.wrap (m : Int) = (m : Int) := IntWalk.i64_in _ (by omega)
                        have HSc : Hid ((scsL l)[(((m : Int) + 1) - 1).toNat]? = some s) := by show _ = _; rw [e1]; exact hs
                        clear hs hs1x e1
                        by_cases h4 : s < s1
                        · have HN : Hid (BestOk S k (j + 1) ((j : Int) + 1)) := BestOk.more HKK.out HBO.out h3 HSc.out HPX.out H0.out H1.out H2.out (by rw [← es1]; exact h4)
                          clear HBO es1 h3
                          go_wp2_with fail
                          refine wp_region_chain (.is ?fe0 :: .is ?fe1 :: .is ?fe2 :: .is ?fe3 :: .is ?fe4 :: .is ?fe5 :: .is (.bool true) :: .is (.bool true) :: .is ?fe8 :: .is ?fe9 :: .is (.bool false) :: .is (.bool true) :: .is (.bool true) :: .is (.bool true) :: .is ?fe14 :: .is ?fe15 :: .is (.bool false) :: .is (.bool true) :: .is (.bool true) :: .is (.bool true) :: .is ?fe20 :: .is (.bool false) :: .is (.bool false) :: .is ?fe23 :: .is ?fe24 :: .is ?fe25 :: .is ?fe26 :: .is ?fe27 :: .is ?fe28 :: .is ?fe29 :: .is ?fe30 :: .is ?fe31 :: .is ?fe32 :: .is (.bool true) :: .is (.bool true) :: .is (.bool true) :: []) (by kernel_rfl) (by kernel_rfl) (by kernel_rfl) (lasts_is (lasts_is (lasts_is (lasts_is (lasts_is (lasts_is (lasts_is (lasts_is (lasts_is (lasts_is (lasts_is (lasts_is (lasts_is (lasts_is (lasts_is (lasts_is (lasts_is (lasts_is (lasts_is (lasts_is (lasts_is (lasts_is (lasts_is (lasts_is (lasts_is (lasts_is (lasts_is (lasts_is (lasts_is (lasts_is (lasts_is (lasts_is (lasts_is (lasts_is (lasts_is (lasts_is lasts_nil)))))))))))))))))))))))))))))))))))) (fun W0 hb0 hz0 => ?_)
                          rotate_left 21
                          refine chain_is (step_take (by rfl) ?ye0) ?re0
                          case ye0 =>
                            intro w hbw hd
                            clear hd
                            go_simp
                            first | done | with_reducible rfl
                          (try simp only [Act.put, List.setIfInBounds_toArray, List.set_cons_zero, List.set_cons_succ, List.nil_append, List.cons_append])
                          refine chain_is (step_take (by rfl) ?ye1) ?re1
                          case ye1 =>
                            intro w hbw hd
                            clear hd
                            go_simp
                            first | done | with_reducible rfl
                          (try simp only [Act.put, List.setIfInBounds_toArray, List.set_cons_zero, List.set_cons_succ, List.nil_append, List.cons_append])
                          refine chain_is (step_take (by rfl) ?ye2) ?re2
                          case ye2 =>
                            intro w hbw hd
                            clear hd
                            go_simp
                            first | done | with_reducible rfl
                          (try simp only [Act.put, List.setIfInBounds_toArray, List.set_cons_zero, List.set_cons_succ, List.nil_append, List.cons_append])
                          refine chain_is (step_take (by rfl) ?ye3) ?re3
                          case ye3 =>
                            intro w hbw hd
                            clear hd
                            go_simp
                            first | done | with_reducible rfl
                          (try simp only [Act.put, List.setIfInBounds_toArray, List.set_cons_zero, List.set_cons_succ, List.nil_append, List.cons_append])
                          refine chain_is (step_take (by rfl) ?ye4) ?re4
                          case ye4 =>
                            intro w hbw hd
                            clear hd
                            go_simp
                            first | done | with_reducible rfl
                          (try simp only [Act.put, List.setIfInBounds_toArray, List.set_cons_zero, List.set_cons_succ, List.nil_append, List.cons_append])
                          refine chain_is (step_take (by rfl) ?ye5) ?re5
                          case ye5 =>
                            intro w hbw hd
                            have q := cell_keep hbw (cell_keep hb0 hst hbl) (by rw [hz0]; exact hbl)
                            clear hd
                            go_simp
                            first | done | with_reducible rfl
                          (try simp only [Act.put, List.setIfInBounds_toArray, List.set_cons_zero, List.set_cons_succ, List.nil_append, List.cons_append])
                          refine chain_is (step_take (by rfl) ?ye6) ?re6
                          case ye6 =>
                            intro w hbw hd
                            clear hd
                            go_simp
                            first | done | with_reducible rfl
                          (try simp only [Act.put, List.setIfInBounds_toArray, List.set_cons_zero, List.set_cons_succ, List.nil_append, List.cons_append])
                          refine chain_is (step_take (by rfl) ?ye7) ?re7
                          case ye7 =>
                            intro w hbw hd
                            clear hd
                            go_simp
                            first | done | with_reducible rfl
                          (try simp only [Act.put, List.setIfInBounds_toArray, List.set_cons_zero, List.set_cons_succ, List.nil_append, List.cons_append])
                          refine chain_is (step_take (by rfl) ?ye8) ?re8
                          case ye8 =>
                            intro w hbw hd
                            clear hd
                            go_simp
                            first | done | with_reducible rfl
                          (try simp only [Act.put, List.setIfInBounds_toArray, List.set_cons_zero, List.set_cons_succ, List.nil_append, List.cons_append])
                          refine chain_is (step_take (by rfl) ?ye9) ?re9
                          case ye9 =>
                            intro w hbw hd
                            clear hd
                            go_simp
                            first | done | with_reducible rfl
                          (try simp only [Act.put, List.setIfInBounds_toArray, List.set_cons_zero, List.set_cons_succ, List.nil_append, List.cons_append])
                          refine chain_is ?se10 ?re10
                          case se10 =>
                            intro w hbw hd K Q' hK
                            clear hd
                            go_simp
                            (go_at_call 47; refine (hin1 _ (hb0.trans (hbw.mono (by omega)))).mono ?_; rintro e w' ⟨rfl, hbe⟩)
                            refine hK.out (.bool false) _ _ ?_ ?_ rfl
                            · (simp only [Act.put, List.setIfInBounds_toArray, List.set_cons_zero, List.set_cons_succ, List.nil_append, List.cons_append])
                            · exact (by repeat' (first | with_reducible exact Below.refl _ _ | with_reducible assumption | with_reducible apply Below.drew | with_reducible apply below_drewN | with_reducible apply Below.alloc | with_reducible apply Below.setCell | (with_reducible refine Below.trans ?_ (Below.mono (by assumption) ?_)) | (simp; done) | (simp; omega) | omega | with_reducible apply le_size_alloc | with_reducible apply le_size_drewN | with_reducible apply le_size_drew | with_reducible apply le_size_setCell | with_reducible refine Nat.le_trans ?_ (Below.size (by assumption))))
                          (try simp only [Act.put, List.setIfInBounds_toArray, List.set_cons_zero, List.set_cons_succ, List.nil_append, List.cons_append])
                          refine chain_is (step_take (by rfl) ?ye11) ?re11
                          case ye11 =>
                            intro w hbw hd
                            clear hd
                            go_simp
                            first | done | with_reducible rfl
                          (try simp only [Act.put, List.setIfInBounds_toArray, List.set_cons_zero, List.set_cons_succ, List.nil_append, List.cons_append])
                          refine chain_is (step_take (by rfl) ?ye12) ?re12
                          case ye12 =>
                            intro w hbw hd
                            clear hd
                            go_simp
                            first | done | with_reducible rfl
                          (try simp only [Act.put, List.setIfInBounds_toArray, List.set_cons_zero, List.set_cons_succ, List.nil_append, List.cons_append])
                          refine chain_is (step_take (by rfl) ?ye13) ?re13
                          case ye13 =>
                            intro w hbw hd
                            clear hd
                            go_simp
                            first | done | with_reducible rfl
                          (try simp only [Act.put, List.setIfInBounds_toArray, List.set_cons_zero, List.set_cons_succ, List.nil_append, List.cons_append])
                          refine chain_is (step_take (by rfl) ?ye14) ?re14
                          case ye14 =>
                            intro w hbw hd
                            clear hd
                            go_simp
                            first | done | with_reducible rfl
                          (try simp only [Act.put, List.setIfInBounds_toArray, List.set_cons_zero, List.set_cons_succ, List.nil_append, List.cons_append])
                          refine chain_is (step_take (by rfl) ?ye15) ?re15
                          case ye15 =>
                            intro w hbw hd
                            clear hd
                            go_simp
                            first | done | with_reducible rfl
                          (try simp only [Act.put, List.setIfInBounds_toArray, List.set_cons_zero, List.set_cons_succ, List.nil_append, List.cons_append])
                          refine chain_is ?se16 ?re16
                          case se16 =>
                            intro w hbw hd K Q' hK
                            clear hd
                            go_simp
                            (go_at_call 47; refine (hin2 _ (hb0.trans (hbw.mono (by omega)))).mono ?_; rintro e w' ⟨rfl, hbe⟩)
                            refine hK.out (.bool false) _ _ ?_ ?_ rfl
                            · (simp only [Act.put, List.setIfInBounds_toArray, List.set_cons_zero, List.set_cons_succ, List.nil_append, List.cons_append])
                            · exact (by repeat' (first | with_reducible exact Below.refl _ _ | with_reducible assumption | with_reducible apply Below.drew | with_reducible apply below_drewN | with_reducible apply Below.alloc | with_reducible apply Below.setCell | (with_reducible refine Below.trans ?_ (Below.mono (by assumption) ?_)) | (simp; done) | (simp; omega) | omega | with_reducible apply le_size_alloc | with_reducible apply le_size_drewN | with_reducible apply le_size_drew | with_reducible apply le_size_setCell | with_reducible refine Nat.le_trans ?_ (Below.size (by assumption))))
                          (try simp only [Act.put, List.setIfInBounds_toArray, List.set_cons_zero, List.set_cons_succ, List.nil_append, List.cons_append])
                          refine chain_is (step_take (by rfl) ?ye17) ?re17
                          case ye17 =>
                            intro w hbw hd
                            clear hd
                            go_simp
                            first | done | with_reducible rfl
                          (try simp only [Act.put, List.setIfInBounds_toArray, List.set_cons_zero, List.set_cons_succ, List.nil_append, List.cons_append])
                          refine chain_is (step_take (by rfl) ?ye18) ?re18
                          case ye18 =>
                            intro w hbw hd
                            clear hd
                            go_simp
                            first | done | with_reducible rfl
                          (try simp only [Act.put, List.setIfInBounds_toArray, List.set_cons_zero, List.set_cons_succ, List.nil_append, List.cons_append])
                          refine chain_is (step_take (by rfl) ?ye19) ?re19
                          case ye19 =>
                            intro w hbw hd
                            clear hd
                            go_simp
                            first | done | with_reducible rfl
                          (try simp only [Act.put, List.setIfInBounds_toArray, List.set_cons_zero, List.set_cons_succ, List.nil_append, List.cons_append])
                          refine chain_is (step_take (by rfl) ?ye20) ?re20
                          case ye20 =>
                            intro w hbw hd
                            clear hd
                            go_simp
                            first | done | with_reducible rfl
                          (try simp only [Act.put, List.setIfInBounds_toArray, List.set_cons_zero, List.set_cons_succ, List.nil_append, List.cons_append])
                          refine chain_is (step_take (by rfl) ?ye21) ?re21
                          case ye21 =>
                            intro w hbw hd
                            clear hd
                            go_simp
                            first | done | with_reducible rfl
                          (try simp only [Act.put, List.setIfInBounds_toArray, List.set_cons_zero, List.set_cons_succ, List.nil_append, List.cons_append])
                          refine chain_is (step_take (by rfl) ?ye22) ?re22
                          case ye22 =>
                            intro w hbw hd
                            clear hd
                            go_simp
                            first | done | with_reducible rfl
                          (try simp only [Act.put, List.setIfInBounds_toArray, List.set_cons_zero, List.set_cons_succ, List.nil_append, List.cons_append])
                          refine chain_is (step_take (by rfl) ?ye23) ?re23
                          case ye23 =>
                            intro w hbw hd
                            clear hd
                            go_simp
                            first | done | with_reducible rfl
                          (try simp only [Act.put, List.setIfInBounds_toArray, List.set_cons_zero, List.set_cons_succ, List.nil_append, List.cons_append])
                          refine chain_is (step_take (by rfl) ?ye24) ?re24
                          case ye24 =>
                            intro w hbw hd
                            clear hd
                            go_simp
                            first | done | with_reducible rfl
                          (try simp only [Act.put, List.setIfInBounds_toArray, List.set_cons_zero, List.set_cons_succ, List.nil_append, List.cons_append])
                          refine chain_is (step_take (by rfl) ?ye25) ?re25
                          case ye25 =>
                            intro w hbw hd
                            clear hd
                            go_simp
                            first | done | with_reducible rfl
                          (try simp only [Act.put, List.setIfInBounds_toArray, List.set_cons_zero, List.set_cons_succ, List.nil_append, List.cons_append])
                          refine chain_is (step_take (by rfl) ?ye26) ?re26
                          case ye26 =>
                            intro w hbw hd
                            clear hd
                            go_simp
                            first | done | with_reducible rfl
                          (try simp only [Act.put, List.setIfInBounds_toArray, List.set_cons_zero, List.set_cons_succ, List.nil_append, List.cons_append])
                          refine chain_is (step_take (by rfl) ?ye27) ?re27
                          case ye27 =>
                            intro w hbw hd
                            have q := cell_keep hbw (cell_keep hb0 hs1 hbs) (by rw [hz0]; exact hbs)
                            clear hd
                            go_simp
                            first | done | with_reducible rfl
                          (try simp only [Act.put, List.setIfInBounds_toArray, List.set_cons_zero, List.set_cons_succ, List.nil_append, List.cons_append])
                          refine chain_is (step_take (by rfl) ?ye28) ?re28
                          case ye28 =>
                            intro w hbw hd
                            clear hd
                            go_simp
                            first | done | with_reducible rfl
                          (try simp only [Act.put, List.setIfInBounds_toArray, List.set_cons_zero, List.set_cons_succ, List.nil_append, List.cons_append])
                          refine chain_is (step_take (by rfl) ?ye29) ?re29
                          case ye29 =>
                            intro w hbw hd
                            clear hd
                            go_simp
                            first | done | with_reducible rfl
                          (try simp only [Act.put, List.setIfInBounds_toArray, List.set_cons_zero, List.set_cons_succ, List.nil_append, List.cons_append])
                          refine chain_is (step_take (by rfl) ?ye30) ?re30
                          case ye30 =>
                            intro w hbw hd
                            clear hd
                            go_simp
                            first | done | with_reducible rfl
                          (try simp only [Act.put, List.setIfInBounds_toArray, List.set_cons_zero, List.set_cons_succ, List.nil_append, List.cons_append])
                          refine chain_is (step_take (by rfl) ?ye31) ?re31
                          case ye31 =>
                            intro w hbw hd
                            clear hd
                            go_simp
                            first | done | with_reducible rfl
                          (try simp only [Act.put, List.setIfInBounds_toArray, List.set_cons_zero, List.set_cons_succ, List.nil_append, List.cons_append])
                          refine chain_is (step_take (by rfl) ?ye32) ?re32
                          case ye32 =>
                            intro w hbw hd
                            have q := cell_keep hbw (cell_keep hb0 hs2 hbs) (by rw [hz0]; exact hbs)
                            clear hd
                            go_simp
                            first | done | with_reducible rfl
                          (try simp only [Act.put, List.setIfInBounds_toArray, List.set_cons_zero, List.set_cons_succ, List.nil_append, List.cons_append])
                          refine chain_is (step_take (by rfl) ?ye33) ?re33
                          case ye33 =>
                            intro w hbw hd
                            clear hd
                            go_simp
                            first | done | with_reducible rfl
                          (try simp only [Act.put, List.setIfInBounds_toArray, List.set_cons_zero, List.set_cons_succ, List.nil_append, List.cons_append])
                          refine chain_is (step_take (by rfl) ?ye34) ?re34
                          case ye34 =>
                            intro w hbw hd
                            clear hd
                            go_simp
                            first | done | with_reducible rfl
                          (try simp only [Act.put, List.setIfInBounds_toArray, List.set_cons_zero, List.set_cons_succ, List.nil_append, List.cons_append])
                          refine chain_is (step_take (by rfl) ?ye35) ?re35
                          case ye35 =>
                            intro w hbw hd
                            clear hd
                            go_simp
                            first | done | with_reducible rfl
                          (try simp only [Act.put, List.setIfInBounds_toArray, List.set_cons_zero, List.set_cons_succ, List.nil_append, List.cons_append])
                          refine chain_end (fun wz hbz hd => ?_)
                          have hbx : Below wq.heap.size wq wz := hb0.trans (hbz.mono (by omega))
                          clear hd hbz hb0
                          go_wp2
                          go_roundw
                          case rel => exact ⟨j + 1, (j : Int) + 1, by omega, by go_num, rfl, HN.out, (by repeat' (first | with_reducible exact Below.refl _ _ | with_reducible assumption | with_reducible apply Below.drew | with_reducible apply below_drewN | with_reducible apply Below.alloc | with_reducible apply Below.setCell | (with_reducible refine Below.trans ?_ (Below.mono (by assumption) ?_)) | (simp; done) | (simp; omega) | omega | with_reducible apply le_size_alloc | with_reducible apply le_size_drewN | with_reducible apply le_size_drew | with_reducible apply le_size_setCell | refine Nat.le_trans ?_ (Below.size (by assumption))))⟩
                          case measure => simp [intOf]; omega
                        · have HN : Hid (BestOk S k (j + 1) ((m : Int) + 1)) := BestOk.less HKK.out HBO.out h3 HSc.out HPX.out (by rw [← es1]; exact h4)
                          clear HBO es1 h3
                          go_wp2_with fail
                          refine wp_region_chain (.is ?ff0 :: .is ?ff1 :: .is ?ff2 :: .is ?ff3 :: .is ?ff4 :: .is ?ff5 :: .is (.bool true) :: .is (.bool true) :: .is ?ff8 :: .is ?ff9 :: .is (.bool false) :: .is (.bool true) :: .is (.bool true) :: .is (.bool true) :: .is ?ff14 :: .is ?ff15 :: .is (.bool false) :: .is (.bool true) :: .is (.bool true) :: .is (.bool true) :: .is ?ff20 :: .is (.bool false) :: .is (.bool false) :: .is ?ff23 :: .is ?ff24 :: .is ?ff25 :: .is ?ff26 :: .is ?ff27 :: .is ?ff28 :: .is ?ff29 :: .is ?ff30 :: .is ?ff31 :: .is ?ff32 :: .is (.bool false) :: .is (.bool false) :: .is (.bool false) :: []) (by kernel_rfl) (by kernel_rfl) (by kernel_rfl) (lasts_is (lasts_is (lasts_is (lasts_is (lasts_is (lasts_is (lasts_is (lasts_is (lasts_is (lasts_is (lasts_is (lasts_is (lasts_is (lasts_is (lasts_is (lasts_is (lasts_is (lasts_is (lasts_is (lasts_is (lasts_is (lasts_is (lasts_is (lasts_is (lasts_is (lasts_is (lasts_is (lasts_is (lasts_is (lasts_is (lasts_is (lasts_is (lasts_is (lasts_is (lasts_is (lasts_is lasts_nil)))))))))))))))))))))))))))))))))))) (fun W0 hb0 hz0 => ?_)
                          rotate_left 21
                          refine chain_is (step_take (by rfl) ?yf0) ?rf0
                          case yf0 =>
                            intro w hbw hd
                            clear hd
                            go_simp
                            first | done | with_reducible rfl
                          (try simp only [Act.put, List.setIfInBounds_toArray, List.set_cons_zero, List.set_cons_succ, List.nil_append, List.cons_append])
                          refine chain_is (step_take (by rfl) ?yf1) ?rf1
                          case yf1 =>
                            intro w hbw hd
                            clear hd
                            go_simp
                            first | done | with_reducible rfl
                          (try simp only [Act.put, List.setIfInBounds_toArray, List.set_cons_zero, List.set_cons_succ, List.nil_append, List.cons_append])
                          refine chain_is (step_take (by rfl) ?yf2) ?rf2
                          case yf2 =>
                            intro w hbw hd
                            clear hd
                            go_simp
                            first | done | with_reducible rfl
                          (try simp only [Act.put, List.setIfInBounds_toArray, List.set_cons_zero, List.set_cons_succ, List.nil_append, List.cons_append])
                          refine chain_is (step_take (by rfl) ?yf3) ?rf3
                          case yf3 =>
                            intro w hbw hd
                            clear hd
                            go_simp
                            first | done | with_reducible rfl
                          (try simp only [Act.put, List.setIfInBounds_toArray, List.set_cons_zero, List.set_cons_succ, List.nil_append, List.cons_append])
                          refine chain_is (step_take (by rfl) ?yf4) ?rf4
                          case yf4 =>
                            intro w hbw hd
                            clear hd
                            go_simp
                            first | done | with_reducible rfl
                          (try simp only [Act.put, List.setIfInBounds_toArray, List.set_cons_zero, List.set_cons_succ, List.nil_append, List.cons_append])
                          refine chain_is (step_take (by rfl) ?yf5) ?rf5
                          case yf5 =>
                            intro w hbw hd
                            have q := cell_keep hbw (cell_keep hb0 hst hbl) (by rw [hz0]; exact hbl)
                            clear hd
                            go_simp
                            first | done | with_reducible rfl
                          (try simp only [Act.put, List.setIfInBounds_toArray, List.set_cons_zero, List.set_cons_succ, List.nil_append, List.cons_append])
                          refine chain_is (step_take (by rfl) ?yf6) ?rf6
                          case yf6 =>
                            intro w hbw hd
                            clear hd
                            go_simp
                            first | done | with_reducible rfl
                          (try simp only [Act.put, List.setIfInBounds_toArray, List.set_cons_zero, List.set_cons_succ, List.nil_append, List.cons_append])
                          refine chain_is (step_take (by rfl) ?yf7) ?rf7
                          case yf7 =>
                            intro w hbw hd
                            clear hd
                            go_simp
                            first | done | with_reducible rfl
                          (try simp only [Act.put, List.setIfInBounds_toArray, List.set_cons_zero, List.set_cons_succ, List.nil_append, List.cons_append])
                          refine chain_is (step_take (by rfl) ?yf8) ?rf8
                          case yf8 =>
                            intro w hbw hd
                            clear hd
                            go_simp
                            first | done | with_reducible rfl
                          (try simp only [Act.put, List.setIfInBounds_toArray, List.set_cons_zero, List.set_cons_succ, List.nil_append, List.cons_append])
                          refine chain_is (step_take (by rfl) ?yf9) ?rf9
                          case yf9 =>
                            intro w hbw hd
                            clear hd
                            go_simp
                            first | done | with_reducible rfl
                          (try simp only [Act.put, List.setIfInBounds_toArray, List.set_cons_zero, List.set_cons_succ, List.nil_append, List.cons_append])
                          refine chain_is ?sf10 ?rf10
                          case sf10 =>
                            intro w hbw hd K Q' hK
                            clear hd
                            go_simp
                            (go_at_call 47; refine (hin1 _ (hb0.trans (hbw.mono (by omega)))).mono ?_; rintro e w' ⟨rfl, hbe⟩)
                            refine hK.out (.bool false) _ _ ?_ ?_ rfl
                            · (simp only [Act.put, List.setIfInBounds_toArray, List.set_cons_zero, List.set_cons_succ, List.nil_append, List.cons_append])
                            · exact (by repeat' (first | with_reducible exact Below.refl _ _ | with_reducible assumption | with_reducible apply Below.drew | with_reducible apply below_drewN | with_reducible apply Below.alloc | with_reducible apply Below.setCell | (with_reducible refine Below.trans ?_ (Below.mono (by assumption) ?_)) | (simp; done) | (simp; omega) | omega | with_reducible apply le_size_alloc | with_reducible apply le_size_drewN | with_reducible apply le_size_drew | with_reducible apply le_size_setCell | with_reducible refine Nat.le_trans ?_ (Below.size (by assumption))))
                          (try simp only [Act.put, List.setIfInBounds_toArray, List.set_cons_zero, List.set_cons_succ, List.nil_append, List.cons_append])
                          refine chain_is (step_take (by rfl) ?yf11) ?rf11
                          case yf11 =>
                            intro w hbw hd
                            clear hd
                            go_simp
                            first | done | with_reducible rfl
                          (try simp only [Act.put, List.setIfInBounds_toArray, List.set_cons_zero, List.set_cons_succ, List.nil_append, List.cons_append])
                          refine chain_is (step_take (by rfl) ?yf12) ?rf12
                          case yf12 =>
                            intro w hbw hd
                            clear hd
                            go_simp
                            first | done | with_reducible rfl
                          (try simp only [Act.put, List.setIfInBounds_toArray, List.set_cons_zero, List.set_cons_succ, List.nil_append, List.cons_append])
                          refine chain_is (step_take (by rfl) ?yf13) ?rf13
                          case yf13 =>
                            intro w hbw hd
                            clear hd
                            go_simp
                            first | done | with_reducible rfl
                          (try simp only [Act.put, List.setIfInBounds_toArray, List.set_cons_zero, List.set_cons_succ, List.nil_append, List.cons_append])
                          refine chain_is (step_take (by rfl) ?yf14) ?rf14
                          case yf14 =>
                            intro w hbw hd
                            clear hd
                            go_simp
                            first | done | with_reducible rfl
                          (try simp only [Act.put, List.setIfInBounds_toArray, List.set_cons_zero, List.set_cons_succ, List.nil_append, List.cons_append])
                          refine chain_is (step_take (by rfl) ?yf15) ?rf15
                          case yf15 =>
                            intro w hbw hd
                            clear hd
                            go_simp
                            first | done | with_reducible rfl
                          (try simp only [Act.put, List.setIfInBounds_toArray, List.set_cons_zero, List.set_cons_succ, List.nil_append, List.cons_append])
                          refine chain_is ?sf16 ?rf16
                          case sf16 =>
                            intro w hbw hd K Q' hK
                            clear hd
                            go_simp
                            (go_at_call 47; refine (hin2 _ (hb0.trans (hbw.mono (by omega)))).mono ?_; rintro e w' ⟨rfl, hbe⟩)
                            refine hK.out (.bool false) _ _ ?_ ?_ rfl
                            · (simp only [Act.put, List.setIfInBounds_toArray, List.set_cons_zero, List.set_cons_succ, List.nil_append, List.cons_append])
                            · exact (by repeat' (first | with_reducible exact Below.refl _ _ | with_reducible assumption | with_reducible apply Below.drew | with_reducible apply below_drewN | with_reducible apply Below.alloc | with_reducible apply Below.setCell | (with_reducible refine Below.trans ?_ (Below.mono (by assumption) ?_)) | (simp; done) | (simp; omega) | omega | with_reducible apply le_size_alloc | with_reducible apply le_size_drewN | with_reducible apply le_size_drew | with_reducible apply le_size_setCell | with_reducible refine Nat.le_trans ?_ (Below.size (by assumption))))
                          (try simp only [Act.put, List.setIfInBounds_toArray, List.set_cons_zero, List.set_cons_succ, List.nil_append, List.cons_append])
                          refine chain_is (step_take (by rfl) ?yf17) ?rf17
                          case yf17 =>
                            intro w hbw hd
                            clear hd
                            go_simp
                            first | done | with_reducible rfl
                          (try simp only [Act.put, List.setIfInBounds_toArray, List.set_cons_zero, List.set_cons_succ, List.nil_append, List.cons_append])
                          refine chain_is (step_take (by rfl) ?yf18) ?rf18
                          case yf18 =>
                            intro w hbw hd
                            clear hd
                            go_simp
                            first | done | with_reducible rfl
                          (try simp only [Act.put, List.setIfInBounds_toArray, List.set_cons_zero, List.set_cons_succ, List.nil_append, List.cons_append])
                          refine chain_is (step_take (by rfl) ?yf19) ?rf19
                          case yf19 =>
                            intro w hbw hd
                            clear hd
                            go_simp
                            first | done | with_reducible rfl
                          (try simp only [Act.put, List.setIfInBounds_toArray, List.set_cons_zero, List.set_cons_succ, List.nil_append, List.cons_append])
                          refine chain_is (step_take (by rfl) ?yf20) ?rf20
                          case yf20 =>
                            intro w hbw hd
                            clear hd
                            go_simp
                            first | done | with_reducible rfl
                          (try simp only [Act.put, List.setIfInBounds_toArray, List.set_cons_zero, List.set_cons_succ, List.nil_append, List.cons_append])
                          refine chain_is (step_take (by rfl) ?yf21) ?rf21
                          case yf21 =>
                            intro w hbw hd
                            clear hd
                            go_simp
                            first | done | with_reducible rfl
                          (try simp only [Act.put, List.setIfInBounds_toArray, List.set_cons_zero, List.set_cons_succ, List.nil_append, List.cons_append])
                          refine chain_is (step_take (by rfl) ?yf22) ?rf22
                          case yf22 =>
                            intro w hbw hd
                            clear hd
                            go_simp
                            first | done | with_reducible rfl
                          (try simp only [Act.put, List.setIfInBounds_toArray, List.set_cons_zero, List.set_cons_succ, List.nil_append, List.cons_append])
                          refine chain_is (step_take (by rfl) ?yf23) ?rf23
                          case yf23 =>
                            intro w hbw hd
                            clear hd
                            go_simp
                            first | done | with_reducible rfl
                          (try simp only [Act.put, List.setIfInBounds_toArray, List.set_cons_zero, List.set_cons_succ, List.nil_append, List.cons_append])
                          refine chain_is (step_take (by rfl) ?yf24) ?rf24
                          case yf24 =>
                            intro w hbw hd
                            clear hd
                            go_simp
                            first | done | with_reducible rfl
                          (try simp only [Act.put, List.setIfInBounds_toArray, List.set_cons_zero, List.set_cons_succ, List.nil_append, List.cons_append])
                          refine chain_is (step_take (by rfl) ?yf25) ?rf25
                          case yf25 =>
                            intro w hbw hd
                            clear hd
                            go_simp
                            first | done | with_reducible rfl
                          (try simp only [Act.put, List.setIfInBounds_toArray, List.set_cons_zero, List.set_cons_succ, List.nil_append, List.cons_append])
                          refine chain_is (step_take (by rfl) ?yf26) ?rf26
                          case yf26 =>
                            intro w hbw hd
                            clear hd
                            go_simp
                            first | done | with_reducible rfl
                          (try simp only [Act.put, List.setIfInBounds_toArray, List.set_cons_zero, List.set_cons_succ, List.nil_append, List.cons_append])
                          refine chain_is (step_take (by rfl) ?yf27) ?rf27
                          case yf27 =>
                            intro w hbw hd
                            have q := cell_keep hbw (cell_keep hb0 hs1 hbs) (by rw [hz0]; exact hbs)
                            clear hd
                            go_simp
                            first | done | with_reducible rfl
                          (try simp only [Act.put, List.setIfInBounds_toArray, List.set_cons_zero, List.set_cons_succ, List.nil_append, List.cons_append])
                          refine chain_is (step_take (by rfl) ?yf28) ?rf28
                          case yf28 =>
                            intro w hbw hd
                            clear hd
                            go_simp
                            first | done | with_reducible rfl
                          (try simp only [Act.put, List.setIfInBounds_toArray, List.set_cons_zero, List.set_cons_succ, List.nil_append, List.cons_append])
                          refine chain_is (step_take (by rfl) ?yf29) ?rf29
                          case yf29 =>
                            intro w hbw hd
                            clear hd
                            go_simp
                            first | done | with_reducible rfl
                          (try simp only [Act.put, List.setIfInBounds_toArray, List.set_cons_zero, List.set_cons_succ, List.nil_append, List.cons_append])
                          refine chain_is (step_take (by rfl) ?yf30) ?rf30
                          case yf30 =>
                            intro w hbw hd
                            clear hd
                            go_simp
                            first | done | with_reducible rfl
                          (try simp only [Act.put, List.setIfInBounds_toArray, List.set_cons_zero, List.set_cons_succ, List.nil_append, List.cons_append])
                          refine chain_is (step_take (by rfl) ?yf31) ?rf31
                          case yf31 =>
                            intro w hbw hd
                            clear hd
                            go_simp
                            first | done | with_reducible rfl
                          (try simp only [Act.put, List.setIfInBounds_toArray, List.set_cons_zero, List.set_cons_succ, List.nil_append, List.cons_append])
                          refine chain_is (step_take (by rfl) ?yf32) ?rf32
                          case yf32 =>
                            intro w hbw hd
                            have q := cell_keep hbw (cell_keep hb0 hs2 hbs) (by rw [hz0]; exact hbs)
                            clear hd
                            go_simp
                            first | done | with_reducible rfl
                          (try simp only [Act.put, List.setIfInBounds_toArray, List.set_cons_zero, List.set_cons_succ, List.nil_append, List.cons_append])
                          refine chain_is (step_take (by rfl) ?yf33) ?rf33
                          case yf33 =>
                            intro w hbw hd
                            clear hd
                            go_simp
                            first | done | with_reducible rfl
                          (try simp only [Act.put, List.setIfInBounds_toArray, List.set_cons_zero, List.set_cons_succ, List.nil_append, List.cons_append])
                          refine chain_is (step_take (by rfl) ?yf34) ?rf34
                          case yf34 =>
                            intro w hbw hd
                            clear hd
                            go_simp
                            first | done | with_reducible rfl
                          (try simp only [Act.put, List.setIfInBounds_toArray, List.set_cons_zero, List.set_cons_succ, List.nil_append, List.cons_append])
                          refine chain_is (step_take (by rfl) ?yf35) ?rf35
                          case yf35 =>
                            intro w hbw hd
                            clear hd
                            go_simp
                            first | done | with_reducible rfl
                          (try simp only [Act.put, List.setIfInBounds_toArray, List.set_cons_zero, List.set_cons_succ, List.nil_append, List.cons_append])
                          refine chain_end (fun wz hbz hd => ?_)
                          have hbx : Below wq.heap.size wq wz := hb0.trans (hbz.mono (by omega))
                          clear hd hbz hb0
                          go_wp2
                          go_roundw
                          case rel => exact ⟨j + 1, (m : Int) + 1, by omega, by go_num, rfl, HN.out, (by repeat' (first | with_reducible exact Below.refl _ _ | with_reducible assumption | with_reducible apply Below.drew | with_reducible apply below_drewN | with_reducible apply Below.alloc | with_reducible apply Below.setCell | (with_reducible refine Below.trans ?_ (Below.mono (by assumption) ?_)) | (simp; done) | (simp; omega) | omega | with_reducible apply le_size_alloc | with_reducible apply le_size_drewN | with_reducible apply le_size_drew | with_reducible apply le_size_setCell | refine Nat.le_trans ?_ (Below.size (by assumption))))⟩
                          case measure => simp [intOf]; omega
              · obtain rfl : j = l.length := by omega
                have zq : wo.heap.size ≤ wq.heap.size := zwq
                by_cases h3 : best = 0
                · subst h3
                  have hkS := BestOk.none_ HKK.out HBO.out
                  obtain rfl : k = S.length := by omega
                  have hT := HT.out
                  rw [List.take_length] at hT
                  have HTT := Lib.hid (hT.ext hbq)
                  clear hT HT hjl HBO HL0
                  go_wp2
                  refine bodyPost_ret (v := .tuple #[.slice A3 S.length c3, .int .i64 0]) (by simp [results, Tryz.results19, go_sem]) rfl ?_
                  exact HP _ _ _ A3 c3 HSS.out HG.out rfl HTT.out (hb1.trans (hbq1.mono zw1))
                · obtain ⟨s, hs⟩ := BestOk.next HKK.out HBO.out h3
                  have hb3 : (best == 0) = false := by simpa using h3
                  have hkS := (List.getElem?_eq_some_iff.1 hs).1
                  have hl1 : (S.take k).map (·.1) ++ [best] = (S.take (k + 1)).map (·.1) := by rw [take_snocG hs]; simp
                  have hl2 : ((S.take (k + 1)).map (·.1)).length = k + 1 := by rw [List.length_map, List.length_take]; omega
                  have hOq : OwnR intE wq w1.heap.size (.slice A3 ((S.take k).map (·.1)).length c3) ((S.take k).map (·.1)) := HOO.out.ext hbq
                  generalize (S.take k).map (·.1) = l0 at hl1 HL0 hOq HT HOO
                  obtain ⟨l', hl'⟩ : ∃ l', (S.take (k + 1)).map (·.1) = l' := ⟨_, rfl⟩
                  rw [hl'] at hl1 hl2
                  have HLL := Lib.hid hl'
                  have H1 := Lib.hid hl1; have H2 := Lib.hid hl2; have HQ := Lib.hid hOq
                  clear hl' hl1 hl2 hOq hs hjl HBO HT HOO h3
                  go_wp2_with (at_builtin; refine wpList_ownR intE rfl (.tmp 90) (.tmp 92) _ rfl rfl _ w1.heap.size (by simp; omega) A3 c3 k l0 HL0.out.symm (HQ.out.ext (by repeat' (first | with_reducible exact Below.refl _ _ | with_reducible assumption | with_reducible apply Below.drew | with_reducible apply below_drewN | with_reducible apply Below.alloc | with_reducible apply Below.setCell | (with_reducible refine Below.trans ?_ (Below.mono (by assumption) ?_)) | (simp; done) | (simp; omega) | omega | with_reducible apply le_size_alloc | with_reducible apply le_size_drewN | with_reducible apply le_size_drew | with_reducible apply le_size_setCell | refine Nat.le_trans ?_ (Below.size (by assumption))))) (some ⟨wq.heap.size, 0, none⟩) 1 1 [best] rfl (SR.of_blk (E := intE) (l := [best]) (t := 3) (Blk.new_ (by simp) rfl)) (by simp) (by simp; have := HL0.out; omega) rfl rfl ?_; rw [H1.out]; intro A5 c5 w5 hO5 hb5 hg5; rw [H2.out] at hO5 ⊢)
                  go_roundw
                  case rel => exact ⟨k + 1, A5, c5, by omega, rfl, by rw [HLL.out]; exact hO5, (show Below w1.heap.size w1 w5 from (by repeat' (first | with_reducible exact Below.refl _ _ | with_reducible assumption | with_reducible apply Below.drew | with_reducible apply below_drewN | with_reducible apply Below.alloc | with_reducible apply Below.setCell | (with_reducible refine Below.trans ?_ (Below.mono (by assumption) ?_)) | (simp; done) | (simp; omega) | omega | with_reducible apply le_size_alloc | with_reducible apply le_size_drewN | with_reducible apply le_size_drew | with_reducible apply le_size_setCell | refine Nat.le_trans ?_ (Below.size (by assumption)))))⟩
                  case measure => simp [slN]; omega
          · obtain rfl : k = S.length := by omega
            have hT : Sl wr (.int .i64) A3 ((S.take S.length).map (·.1)) := (OwnR.sr HO.out).2.sl
            rw [List.take_length] at hT
            have HTT := Lib.hid hT
            have i1 : ¬ (S.length : Int) < l.length := by omega
            clear hT HO hlt
            go_wp2
            refine bodyPost_ret (v := .tuple #[.slice A3 S.length c3, .int .i64 0]) (by simp [results, Tryz.results19, go_sem]) rfl ?_
            exact HP _ _ _ A3 c3 HSS.out HG.out rfl HTT.out (hb1.trans (hbr.mono zw1))
  · have hr : rnkE l sp = scrE l := by unfold rnkE; rw [if_neg h0]
    have HP : ∀ e w' A c, e = .returned (.tuple #[.slice A 0 c, .int .i64 (scrE l)]) → Below w.heap.size w w' → RnkPost l sp w e w' := fun e' w' A' c' he hb => by
      unfold RnkPost
      rw [hr, if_neg h0]
      exact ⟨⟨A', c', he, fun h => absurd h h0⟩, hb⟩
    generalize scrE l = z at *
    have hb : (z != 0) = true := by simpa using h0
    have HZ := Lib.hid h0
    clear h0 hr
    go_enter Tryz.func19, Tryz.ntmps19
    go_wp2_with fail
    refine hS.mono ?_
    rw [if_neg HZ.out]
    rintro e w1 ⟨⟨mb, cb, rfl, _⟩, hb1⟩
    go_wp2
    refine bodyPost_ret (v := .tuple #[.slice none 0 0, .int .i64 z]) (by simp [results, Tryz.results19, go_sem]) rfl ?_
    exact HP _ _ none 0 rfl (by repeat' (first | with_reducible exact Below.refl _ _ | with_reducible assumption | with_reducible apply Below.drew | with_reducible apply below_drewN | with_reducible apply Below.alloc | with_reducible apply Below.setCell | (with_reducible refine Below.trans ?_ (Below.mono (by assumption) ?_)) | (simp; done) | (simp; omega) | omega | with_reducible apply le_size_alloc | with_reducible apply le_size_drewN | with_reducible apply le_size_drew | with_reducible apply le_size_setCell | refine Nat.le_trans ?_ (Below.size (by assumption))))

set_option maxRecDepth 100000 in
set_option maxHeartbeats 4000000 in
theorem rVictim_any (A : Option Addr) (c : Nat) (l : List PV) (B : Option Addr) (d : Nat) (sp : List Int) (w : World) (hs : SR procE w A l) (ll : l.length ≤ 1000) (hp : Sl w (.int .i64) B sp) (lp : sp.length ≤ 1000) :
    Calls Tryz.prog 17 #[.slice A l.length c, .slice B sp.length d] w fun e w' => e = .returned (.tuple #[.int .i64 (vicI l sp), .int .i64 (vicE l sp)]) ∧ Below w.heap.size w w' := by
  have hR := rRanks_any A c l B d sp w hs ll hp lp
  unfold RnkPost at hR
  by_cases h0 : rnkE l sp = 0
  · rw [h0] at hR
    cases hr : rnkL l sp with
    | nil =>
      have e1 : vicE l sp = 6 := by unfold vicE; rw [if_pos h0, if_pos hr]
      have e2 : vicI l sp = 0 := by unfold vicI; rw [if_pos h0, hr]; rfl
      rw [e1, e2]
      rw [hr] at hR
      clear e1 e2 hr h0 hs hp
      go_enter Tryz.func17, Tryz.ntmps17
      go_wp2_with fail
      refine hR.mono ?_
      rintro e w1 ⟨⟨A2, c2, rfl, hsl⟩, hb1⟩
      go_wp2
      refine bodyPost_ret (v := .tuple #[.int .i64 0, .int .i64 6]) (by simp [results, Tryz.results17, go_sem]) rfl ?_
      exact ⟨rfl, (by repeat' (first | with_reducible exact Below.refl _ _ | with_reducible assumption | with_reducible apply Below.drew | with_reducible apply below_drewN | with_reducible apply Below.alloc | with_reducible apply Below.setCell | (with_reducible refine Below.trans ?_ (Below.mono (by assumption) ?_)) | (simp; done) | (simp; omega) | omega | with_reducible apply le_size_alloc | with_reducible apply le_size_drewN | with_reducible apply le_size_drew | with_reducible apply le_size_setCell | refine Nat.le_trans ?_ (Below.size (by assumption))))⟩
    | cons a t =>
      have e1 : vicE l sp = 0 := by unfold vicE; rw [if_pos h0, if_neg (by rw [hr]; simp)]
      have e2 : vicI l sp = a := by unfold vicI; rw [if_pos h0, hr]; rfl
      have hl := rnkL_len l sp
      have h8 := rnkE_ok h0
      rw [hr] at hl
      simp only [List.length_cons] at hl
      rw [e1, e2]
      rw [hr] at hR
      clear e1 e2 hr h0 hs hp
      go_enter Tryz.func17, Tryz.ntmps17
      go_wp2_with fail
      refine hR.mono ?_
      rintro e w1 ⟨⟨A2, c2, rfl, hsl⟩, hb1⟩
      obtain ⟨b, off, x, rfl, hbl, hx, hc⟩ := (hsl (by simp)).at_ (show 0 < (a :: t).length by simp)
      simp at hx
      subst hx
      have hc0 : w1.cell? ⟨b, off, none⟩ = some (.int .i64 a) := hc
      have hn : ((t.length : Int) + 1 == 0) = false := by simp; omega
      simp only [List.length_cons, if_true] at *
      clear hsl hc hR
      go_wp2
      refine bodyPost_ret (v := .tuple #[.int .i64 a, .int .i64 0]) (by simp [results, Tryz.results17, go_sem]) rfl ?_
      exact ⟨rfl, (by repeat' (first | with_reducible exact Below.refl _ _ | with_reducible assumption | with_reducible apply Below.drew | with_reducible apply below_drewN | with_reducible apply Below.alloc | with_reducible apply Below.setCell | (with_reducible refine Below.trans ?_ (Below.mono (by assumption) ?_)) | (simp; done) | (simp; omega) | omega | with_reducible apply le_size_alloc | with_reducible apply le_size_drewN | with_reducible apply le_size_drew | with_reducible apply le_size_setCell | refine Nat.le_trans ?_ (Below.size (by assumption))))⟩
  · have e1 : vicE l sp = rnkE l sp := by unfold vicE; rw [if_neg h0]
    have e2 : vicI l sp = 0 := by unfold vicI; rw [if_neg h0]
    rw [e1, e2]
    generalize rnkE l sp = z at *
    have hb : (z != 0) = true := by simpa using h0
    have HZ := Lib.hid h0
    clear h0 e1 e2
    go_enter Tryz.func17, Tryz.ntmps17
    go_wp2_with fail
    refine hR.mono ?_
    rw [if_neg HZ.out]
    rintro e w1 ⟨⟨A2, c2, rfl, _⟩, hb1⟩
    go_wp2
    refine bodyPost_ret (v := .tuple #[.int .i64 0, .int .i64 z]) (by simp [results, Tryz.results17, go_sem]) rfl ?_
    exact ⟨rfl, (by repeat' (first | with_reducible exact Below.refl _ _ | with_reducible assumption | with_reducible apply Below.drew | with_reducible apply below_drewN | with_reducible apply Below.alloc | with_reducible apply Below.setCell | (with_reducible refine Below.trans ?_ (Below.mono (by assumption) ?_)) | (simp; done) | (simp; omega) | omega | with_reducible apply le_size_alloc | with_reducible apply le_size_drewN | with_reducible apply le_size_drew | with_reducible apply le_size_setCell | refine Nat.le_trans ?_ (Below.size (by assumption))))⟩
end Go.Proofs.YtmbpjafiinfkkaaGreatDoor
