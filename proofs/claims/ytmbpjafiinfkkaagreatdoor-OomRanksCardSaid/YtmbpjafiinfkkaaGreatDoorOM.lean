/- Package oom: candidates, listed. No statement is proved here. -/
import Derived.Test.YtmbpjafiinfkkaaGreatDoorMapI
import Derived.Test.YtmbpjafiinfkkaaGreatDoorOC
namespace Go.Proofs.YtmbpjafiinfkkaaGreatDoor
set_option linter.unusedSimpArgs false
set_option linter.unusedVariables false
open Go.RowKit Go.Maps

/-- What candidates hands back. -/
def CanPost (l : List PV) (sp : List Int) (w : World) (e : Ending) (w' : World) : Prop :=
  (∃ mb, e = .returned (.tuple #[.map mb, .int .i64 (rnkE l sp)]) ∧ (rnkE l sp = 0 → ∃ B, mb = some B ∧ w.heap.size ≤ B ∧ MapI w' B 8 (candF l sp l.length))) ∧ Below w.heap.size w w'
theorem scrE_ok {l : List PV} (h : scrE l = 0) : 1 ≤ l.length ∧ l.length ≤ 8 := by
  unfold scrE at h
  split at h
  · omega
  · omega
theorem spB_take {n : Nat} {sp : List Int} {k : Nat} {x : Int} (h : sp[k]? = some x) (hx : x < 1 ∨ (n : Int) < x) : spB n sp = true := by
  unfold spB
  rw [List.any_eq_true]
  exact ⟨x, List.mem_of_getElem? h, by simpa using hx⟩
theorem spB_all {n : Nat} {sp : List Int} (h : ∀ x ∈ sp, 1 ≤ x ∧ x ≤ n) : spB n sp = false := by
  cases hb : spB n sp with
  | false => rfl
  | true =>
    unfold spB at hb
    rw [List.any_eq_true] at hb
    obtain ⟨x, hx, h1⟩ := hb
    have := h x hx
    simp at h1
    omega
theorem rangeT {sp : List Int} {n k : Nat} {x : Int} (h : ∀ y ∈ sp.take k, 1 ≤ y ∧ y ≤ (n : Int)) (hx : sp[k]? = some x) (h1 : 1 ≤ x ∧ x ≤ (n : Int)) : ∀ y ∈ sp.take (k + 1), 1 ≤ y ∧ y ≤ (n : Int) := by
  rw [take_snocG hx]
  intro y hy
  rcases List.mem_append.1 hy with h2 | h2
  · exact h y h2
  · simp at h2; subst h2; exact h1
theorem pvC_st (p : PV) : (pvC p).toArray[0]? = some (.int .i64 p.st) := rfl

set_option maxRecDepth 100000 in
set_option maxHeartbeats 8000000 in
theorem candidates_any (A : Option Addr) (c : Nat) (l : List PV) (B : Option Addr) (d : Nat) (sp : List Int) (w : World) (hal : AL w) (hs : SR procE w A l) (ll : l.length ≤ 1000) (hp : Sl w (.int .i64) B sp) (lp : sp.length ≤ 1000) :
    Calls Tryz.prog 41 #[.slice A l.length c, .slice B sp.length d] w (CanPost l sp w) := by
  have hS := Scores_any A c l w hal hs ll
  unfold ScrPost at hS
  have hmm := @run_makeMap Tryz.prog
  by_cases h0 : scrE l = 0
  · obtain ⟨n1, n8⟩ := scrE_ok h0
    rw [h0] at hS
    have hE : rnkE l sp = if spB l.length sp then 2 else 0 := by unfold rnkE; rw [if_pos h0]
    have HP2 : spB l.length sp = true → ∀ e w', e = .returned (.tuple #[.map none, .int .i64 2]) → Below w.heap.size w w' → CanPost l sp w e w' := fun hb e' w' he hb' => by
      unfold CanPost
      rw [hE, if_pos hb]
      exact ⟨⟨none, he, fun h => by simp at h⟩, hb'⟩
    have HP0 : spB l.length sp = false → ∀ e w' Bm, e = .returned (.tuple #[.map (some Bm), .int .i64 0]) → w.heap.size ≤ Bm → MapI w' Bm 8 (candF l sp l.length) → Below w.heap.size w w' → CanPost l sp w e w' := fun hb e' w' Bm he h1 h2 hb' => by
      unfold CanPost
      rw [hE, hb]
      exact ⟨⟨some Bm, he, fun _ => ⟨Bm, rfl, h1, h2⟩⟩, hb'⟩
    have HS := Lib.hid hs
    have HQ := Lib.hid hp
    clear hE h0 hs hp
    go_enter Tryz.func41, Tryz.ntmps41
    go_wp2_with fail
    refine hS.mono ?_
    rintro e w1 ⟨⟨A2, c2, rfl, hsc⟩, hb1⟩
    have hsc : Sl w1 (.int .i64) A2 (scsL l) := hsc (by simp)
    have z1 := hb1.size
    have HSC := Lib.hid hsc
    clear hsc hS
    obtain ⟨W2, hW2⟩ : ∃ W2, w1.alloc (.map #[] 0) = W2 := ⟨_, rfl⟩
    have hM0 : MapI W2 w1.heap.size 0 (candF l [] 0) := by rw [← hW2, candF_zero]; exact MapI.new_ _
    have B2 : Below w1.heap.size w1 W2 := by rw [← hW2]; exact (by repeat' (first | with_reducible exact Below.refl _ _ | with_reducible assumption | with_reducible apply Below.drew | with_reducible apply below_drewN | with_reducible apply Below.alloc | with_reducible apply Below.setCell | (with_reducible refine Below.trans ?_ (Below.mono (by assumption) ?_)) | (simp; done) | (simp; omega) | omega | with_reducible apply le_size_alloc | with_reducible apply le_size_drewN | with_reducible apply le_size_drew | with_reducible apply le_size_setCell | refine Nat.le_trans ?_ (Below.size (by assumption))))
    have z2 : w1.heap.size < W2.heap.size := hM0.lt
    have HM0 := Lib.hid hM0
    clear hM0
    go_wp2
    try rw [hW2]
    clear hW2
    go_loopw [24] (fun i wr => ∃ (k n : Nat), k ≤ l.length ∧ n ≤ k ∧ i = .int .i64 k ∧ Hid (MapI wr w1.heap.size n (candF l [] k)) ∧ Below w1.heap.size w1 wr) (fun i _ => l.length - (intOf i).toNat)
    case atStart => exact ⟨0, 0, by omega, by omega, rfl, HM0.out, B2⟩
    case round =>
      obtain ⟨k, n, hk, hn, rfl, HM, hbw⟩ := hrel
      have zM : w1.heap.size < wr.heap.size := HM.out.lt
      by_cases hlt : k < l.length
      · obtain ⟨b, off, x, rfl, hbl, hx, hR⟩ := proc_at (HS.out.ext (hb1.trans (hbw.mono z1))) hlt
        have i1 : (k : Int) < l.length := by omega
        obtain ⟨V, hV⟩ : ∃ V, wr.alloc (.cells (pvC x).toArray 41) = V := ⟨_, rfl⟩
        have BV : Below wr.heap.size wr V := by rw [← hV]; exact (by repeat' (first | with_reducible exact Below.refl _ _ | with_reducible assumption | with_reducible apply Below.drew | with_reducible apply below_drewN | with_reducible apply Below.alloc | with_reducible apply Below.setCell | (with_reducible refine Below.trans ?_ (Below.mono (by assumption) ?_)) | (simp; done) | (simp; omega) | omega | with_reducible apply le_size_alloc | with_reducible apply le_size_drewN | with_reducible apply le_size_drew | with_reducible apply le_size_setCell | refine Nat.le_trans ?_ (Below.size (by assumption))))
        have kV : Blk V wr.heap.size 41 (pvC x).toArray := by rw [← hV]; exact Blk.new_ rfl rfl
        have zV : wr.heap.size < V.heap.size := kV.lt
        have q0 : V.cell? ⟨wr.heap.size, 0, none⟩ = some (.int .i64 x.st) := (kV.cell_ 0).trans (pvC_st x)
        have hsx : (scsL l)[k]? = some (scoN x.es) := by unfold scsL; rw [List.getElem?_map, hx]; rfl
        obtain ⟨b2, o2, y2, rfl, hbl2, hy2, hc2⟩ := HSC.out.at_ (show k < (scsL l).length by unfold scsL; rw [List.length_map]; exact hlt)
        obtain rfl : y2 = scoN x.es := by rw [hsx] at hy2; injection hy2 with h; exact h.symm
        have hc3 : V.cell? ⟨b2, o2 + k, none⟩ = some (.int .i64 (scoN x.es)) := cell_keep (hbw.trans (BV.mono (by omega))) hc2 (by omega)
        have hb3 : b2 < V.heap.size := by omega
        obtain ⟨sc0, sc1⟩ := scoN_le x.es
        have he64 := x.he
        have hwf : (Lit.int .i64 (scoN x.es)).wf = true := wf_i64 (by omega) (by omega)
        have HMV : Hid (MapI V w1.heap.size n (candF l [] k)) := HM.out.below_ BV zM
        by_cases e0 : x.st = 0
        · have HK : Hid (candF l [] (k + 1) = candF l [] k) := candF_skip hx e0
          have e1 : (x.st != 0) = false := by simpa using e0
          clear hx e0 hsx hy2 hc2 hwf
          go_wp2_with (first
            | (refine wpList_load_mid rfl 41 _ rfl b (off + k * 75) rfl (pvC x) _ hR Tryz.underlying41 rfl (sz75 x) ?_)
            | (refine wpList_store_new _ rfl 41 _ _ rfl _ _ rfl rfl (sz75' x) (size75 x) (all75 x) ?_; try rw [hV]))
          go_roundw
          case rel => exact ⟨k + 1, n, by omega, by omega, by go_num, by rw [HK.out]; exact HMV.out, (by repeat' (first | with_reducible exact Below.refl _ _ | with_reducible assumption | with_reducible apply Below.drew | with_reducible apply below_drewN | with_reducible apply Below.alloc | with_reducible apply Below.setCell | (with_reducible refine Below.trans ?_ (Below.mono (by assumption) ?_)) | (simp; done) | (simp; omega) | omega | with_reducible apply le_size_alloc | with_reducible apply le_size_drewN | with_reducible apply le_size_drew | with_reducible apply le_size_setCell | refine Nat.le_trans ?_ (Below.size (by assumption))))⟩
          case measure => simp [intOf]; omega
        · have HK : Hid (candF l [] (k + 1) = fun j => if j = (k : Int) + 1 then some (scoN x.es) else candF l [] k j) := candF_put hx e0
          have e1 : (x.st != 0) = true := by simpa using e0
          have hkey : keyOf Tryz.prog 3 (.int .i64 ((k : Int) + 1)) = some (.int .i64 ((k : Int) + 1)) := key_i (wf_i64 (by omega) (by omega))
          clear hx e0 hsx hy2 hc2
          go_wp2_with (first
            | (refine wpList_load_mid rfl 41 _ rfl b (off + k * 75) rfl (pvC x) _ hR Tryz.underlying41 rfl (sz75 x) ?_)
            | (refine wpList_store_new _ rfl 41 _ _ rfl _ _ rfl rfl (sz75' x) (size75 x) (all75 x) ?_; try rw [hV])
            | (at_mapUpdate; refine wpList_putI _ rfl _ _ _ rfl w1.heap.size n _ rfl HMV.out (by unfold maxLen; omega) ((k : Int) + 1) (scoN x.es) rfl rfl hkey hwf ?_; intro w4 hm4 hg4))
          have B4 : Below w1.heap.size w1 w4 := (hbw.trans (BV.mono (by omega))).grown hg4 (by omega) (fun j hj => by cases hj; omega)
          go_roundw
          case rel => exact ⟨k + 1, n + 1, by omega, by omega, by go_num, by rw [HK.out]; exact hm4, B4⟩
          case measure => simp [intOf]; omega
      · obtain rfl : k = l.length := by omega
        have HM1 : Hid (MapI wr w1.heap.size 8 (candF l [] l.length)) := HM.out.mono (by omega)
        have B3 : Below w.heap.size w wr := hb1.trans (hbw.mono z1)
        have HQ3 : Hid (Sl wr (.int .i64) B sp) := HQ.out.ext B3
        clear HM hlt hn
        go_wp2
        generalize wr = wo at *
        go_loopw [42] (fun i WQ => ∃ k : Nat, k ≤ sp.length ∧ i = .int .i64 k ∧ Hid (MapI WQ w1.heap.size 8 (candF l (sp.take k) l.length)) ∧ Hid (∀ y ∈ sp.take k, 1 ≤ y ∧ y ≤ (l.length : Int)) ∧ Below w1.heap.size wo WQ) (fun i _ => sp.length - (intOf i).toNat)
        case atStart => exact ⟨0, by omega, rfl, HM1.out, by show ∀ y ∈ _, _; simp, Below.refl _ _⟩
        case round =>
          clear hk
          obtain ⟨k, hk, rfl, HM, HR, hbq⟩ := hrel
          have zM2 : w1.heap.size < wr.heap.size := HM.out.lt
          by_cases hlt : k < sp.length
          · obtain ⟨b, off, x, rfl, hbl, hx, hc⟩ := (HQ.out.ext (B3.trans (hbq.mono z1))).at_ hlt
            have i1 : (k : Int) < sp.length := by omega
            by_cases hr : x < 1 ∨ (l.length : Int) < x
            · have HB : Hid (spB l.length sp = true) := spB_take hx hr
              clear hx HR
              rcases hr with hr | hr
              · go_wp2
                refine bodyPost_ret (v := .tuple #[.map none, .int .i64 2]) (by simp [results, Tryz.results41, go_sem]) rfl ?_
                exact HP2 HB.out _ _ rfl (by repeat' (first | with_reducible exact Below.refl _ _ | with_reducible assumption | with_reducible apply Below.drew | with_reducible apply below_drewN | with_reducible apply Below.alloc | with_reducible apply Below.setCell | (with_reducible refine Below.trans ?_ (Below.mono (by assumption) ?_)) | (simp; done) | (simp; omega) | omega | with_reducible apply le_size_alloc | with_reducible apply le_size_drewN | with_reducible apply le_size_drew | with_reducible apply le_size_setCell | refine Nat.le_trans ?_ (Below.size (by assumption))))
              · have h1 : ¬ x < 1 := by omega
                go_wp2
                refine bodyPost_ret (v := .tuple #[.map none, .int .i64 2]) (by simp [results, Tryz.results41, go_sem]) rfl ?_
                exact HP2 HB.out _ _ rfl (by repeat' (first | with_reducible exact Below.refl _ _ | with_reducible assumption | with_reducible apply Below.drew | with_reducible apply below_drewN | with_reducible apply Below.alloc | with_reducible apply Below.setCell | (with_reducible refine Below.trans ?_ (Below.mono (by assumption) ?_)) | (simp; done) | (simp; omega) | omega | with_reducible apply le_size_alloc | with_reducible apply le_size_drewN | with_reducible apply le_size_drew | with_reducible apply le_size_setCell | refine Nat.le_trans ?_ (Below.size (by assumption))))
            · obtain ⟨x1, x2⟩ : 1 ≤ x ∧ x ≤ (l.length : Int) := by omega
              have HR2 : Hid (∀ y ∈ sp.take (k + 1), 1 ≤ y ∧ y ≤ (l.length : Int)) := rangeT HR.out hx ⟨x1, x2⟩
              have HK : Hid (candF l (sp.take (k + 1)) l.length = fun j => if j = x then none else candF l (sp.take k) l.length j) := by show _ = _; rw [take_snocG hx]; exact candF_del _ _ _ _
              have hkey : keyOf Tryz.prog 3 (.int .i64 x) = some (.int .i64 x) := key_i (wf_i64 (by omega) (by omega))
              clear hx HR hr
              go_wp2_with (at_delete; refine wpList_delI _ rfl _ _ rfl w1.heap.size 8 _ rfl HM.out x rfl hkey ?_; intro w4 hm4 hg4)
              have B4 : Below w1.heap.size wo w4 := hbq.grown hg4 (by omega) (fun j hj => by cases hj; omega)
              go_roundw
              case rel => exact ⟨k + 1, by omega, by go_num, by rw [HK.out]; exact hm4, HR2.out, B4⟩
              case measure => simp [intOf]; omega
          · obtain rfl : k = sp.length := by omega
            have HB : Hid (spB l.length sp = false) := spB_all (by have := HR.out; rwa [List.take_length] at this)
            have HM2 : Hid (MapI wr w1.heap.size 8 (candF l sp l.length)) := by have := HM.out; rwa [List.take_length] at this
            clear HM HR hlt
            go_wp2
            refine bodyPost_ret (v := .tuple #[.map (some w1.heap.size), .int .i64 0]) (by simp [results, Tryz.results41, go_sem]) rfl ?_
            exact HP0 HB.out _ _ _ rfl z1 HM2.out (by repeat' (first | with_reducible exact Below.refl _ _ | with_reducible assumption | with_reducible apply Below.drew | with_reducible apply below_drewN | with_reducible apply Below.alloc | with_reducible apply Below.setCell | (with_reducible refine Below.trans ?_ (Below.mono (by assumption) ?_)) | (simp; done) | (simp; omega) | omega | with_reducible apply le_size_alloc | with_reducible apply le_size_drewN | with_reducible apply le_size_drew | with_reducible apply le_size_setCell | refine Nat.le_trans ?_ (Below.size (by assumption))))
  · have hE : rnkE l sp = scrE l := by unfold rnkE; rw [if_neg h0]
    generalize scrE l = z at *
    have hb : (z != 0) = true := by simpa using h0
    have HE : Hid (z ≠ 0) := h0
    rw [if_neg h0] at hS
    have HP : ∀ e w', e = .returned (.tuple #[.map none, .int .i64 z]) → Below w.heap.size w w' → CanPost l sp w e w' := fun e' w' he hb' => by
      unfold CanPost
      rw [hE]
      exact ⟨⟨none, he, fun h => absurd h HE.out⟩, hb'⟩
    clear hE h0
    go_enter Tryz.func41, Tryz.ntmps41
    go_wp2_with fail
    refine hS.mono ?_
    rintro e w1 ⟨⟨A2, c2, rfl, _⟩, hb1⟩
    go_wp2
    refine bodyPost_ret (v := .tuple #[.map none, .int .i64 z]) (by simp [results, Tryz.results41, go_sem]) rfl ?_
    exact HP _ _ rfl (by repeat' (first | with_reducible exact Below.refl _ _ | with_reducible assumption | with_reducible apply Below.drew | with_reducible apply below_drewN | with_reducible apply Below.alloc | with_reducible apply Below.setCell | (with_reducible refine Below.trans ?_ (Below.mono (by assumption) ?_)) | (simp; done) | (simp; omega) | omega | with_reducible apply le_size_alloc | with_reducible apply le_size_drewN | with_reducible apply le_size_drew | with_reducible apply le_size_setCell | refine Nat.le_trans ?_ (Below.size (by assumption))))

set_option maxRecDepth 100000 in
set_option maxHeartbeats 4000000 in
theorem listed_any (B n : Nat) (m : Int → Option Int) (L : List C2) (w : World) (hm : MapI w B n m) (hn : n ≤ 1000) (ha : L.Pairwise fun x y => x.1 < y.1) (hL : ∀ x : C2, x ∈ L ↔ m x.1 = some x.2) (lL : L.length ≤ 1000) :
    Calls Tryz.prog 43 #[.map (some B)] w fun e w' => ∃ A c, e = .returned (.slice A L.length c) ∧ OwnR canE w' w.heap.size (.slice A L.length c) L ∧ Below w.heap.size w w' := by
  have hss : (L.map (·.1)).Pairwise (· < ·) := by rw [List.pairwise_map]; exact ha
  have hmem : ∀ j, j ∈ L.map (·.1) ↔ ∃ s, m j = some s := fun j => by
    rw [List.mem_map]
    constructor
    · rintro ⟨x, hx, rfl⟩; exact ⟨x.2, (hL x).1 hx⟩
    · rintro ⟨s, hs⟩; exact ⟨(j, s), (hL (j, s)).2 hs, rfl⟩
  obtain ⟨D, hD, hKD⟩ := hm.keys hss hmem
  have hlk : ∀ (k : Nat) (x : C2), L[k]? = some x → m x.1 = some x.2 := fun k x h => (hL x).1 (List.mem_of_getElem? h)
  have hkw : ∀ (k : Nat) (x : C2), L[k]? = some x → keyOf Tryz.prog 3 (.int .i64 x.1) = some (.int .i64 x.1) := fun k x h => by
    have h1 : x.1 ∈ keysS D := by rw [hKD]; exact List.mem_map.2 ⟨x, List.mem_of_getElem? h, rfl⟩
    have h2 := intKeys_wf hD Tryz.underlying3 x.1 (by unfold keysS srt at h1; simpa using h1)
    exact key_i h2
  obtain ⟨xs, hxs⟩ : ∃ xs, L.map (·.1) = xs := ⟨_, rfl⟩
  have hxl : xs.length = L.length := by rw [← hxs, List.length_map]
  have hxa : ∀ (k : Nat) (x : C2), L[k]? = some x → xs[k]? = some x.1 := fun k x h => by rw [← hxs, List.getElem?_map, h]; rfl
  rw [hxs] at hKD
  have HXL := Lib.hid hxl; have HXA := Lib.hid hxa; have HLK := Lib.hid hlk; have HKW := Lib.hid hkw
  have HM := Lib.hid hm
  have hBl := hm.lt
  clear hss hmem hxs hL ha hm hxa hlk hkw hxl
  go_enter Tryz.func43, Tryz.ntmps43
  go_wp2_with (first
    | (go_at_call 67; refine (ki_keys _ _).mono ?_; rintro e w' ⟨rfl, rfl⟩)
    | (go_at_call 66; refine (ki_sorted w.heap.size B n D _ (by simp) (by simp) (hD.alloc _) (by omega)).mono ?_; rw [hKD]; rintro e w1 ⟨A, c, rfl, hOw, hb1⟩))
  have hS1 : Sl w1 (.int .i64) A xs := by
    obtain ⟨A', c', e', h'⟩ := Own.sl hOw
    injection e' with e1 e2 e3
    rw [e1]
    exact h'
  have hbz : Below w.heap.size w w1 := (Below.alloc (Below.refl _ _) (Nat.le_refl _) _).trans (hb1.mono (by simp))
  have HM1 : Hid (MapI w1 B n m) := HM.out.ext hbz
  have HS1 := Lib.hid hS1
  have z1 := hbz.size
  clear hOw hb1 hD hKD HM hS1
  go_loopw [10, 3] (fun i s wr => ∃ (k : Nat) (A : Option Addr) (c : Nat), k ≤ L.length ∧ i = .int .i64 k ∧ s = .slice A k c ∧ Hid (OwnR canE wr w1.heap.size (.slice A k c) (L.take k)) ∧ Below w1.heap.size w1 wr) (fun i _ _ => L.length - (intOf i).toNat)
  case atStart => exact ⟨0, none, 0, by omega, rfl, rfl, OwnR.nil, Below.refl _ _⟩
  case round =>
    obtain ⟨k, A3, c3, hk, rfl, rfl, HO, hbw⟩ := hrel
    have zw := hbw.size
    by_cases hlt : k < L.length
    · obtain ⟨x, hx⟩ : ∃ x, L[k]? = some x := ⟨_, List.getElem?_eq_getElem hlt⟩
      obtain ⟨b, off, y, rfl, hbl, hy, hc⟩ := (HS1.out.ext hbw).at_ (show k < xs.length by rw [HXL.out]; exact hlt)
      obtain rfl : y = x.1 := by have := HXA.out k x hx; rw [hy] at this; injection this
      have i1 : (k : Int) < L.length := by omega
      have i2 : (k : Int) < xs.length := by rw [HXL.out]; exact i1
      have hlook := (HM1.out.ext hbw).look (HLK.out k x hx) (HKW.out k x hx)
      have hl0 : (L.take k).length = k := by rw [List.length_take]; omega
      have hl1 : L.take k ++ [x] = L.take (k + 1) := (take_snocG hx).symm
      have hl2 : (L.take (k + 1)).length = k + 1 := by rw [List.length_take]; omega
      have hO : OwnR canE wr w1.heap.size (.slice A3 (L.take k).length c3) (L.take k) := by rw [hl0]; exact HO.out
      generalize L.take k = l0 at hl0 hl1 hO
      obtain ⟨l', hl'⟩ : ∃ l', L.take (k + 1) = l' := ⟨_, rfl⟩
      rw [hl'] at hl1 hl2
      have HLL := Lib.hid hl'
      have H0 := Lib.hid hl0; have H1 := Lib.hid hl1; have H2 := Lib.hid hl2; have HOO := Lib.hid hO
      clear hl' hx hy HO hl0 hl1 hl2 hO
      go_wp2_with (at_builtin; refine wpList_ownR canE rfl (.tmp 14) (.tmp 20) _ rfl rfl _ w1.heap.size (by simp; omega) A3 c3 k l0 H0.out.symm (HOO.out.ext (by repeat' (first | with_reducible exact Below.refl _ _ | with_reducible assumption | with_reducible apply Below.drew | with_reducible apply below_drewN | with_reducible apply Below.alloc | with_reducible apply Below.setCell | (with_reducible refine Below.trans ?_ (Below.mono (by assumption) ?_)) | (simp; done) | (simp; omega) | omega | with_reducible apply le_size_alloc | with_reducible apply le_size_drewN | with_reducible apply le_size_drew | with_reducible apply le_size_setCell | refine Nat.le_trans ?_ (Below.size (by assumption))))) (some ⟨wr.heap.size, 0, none⟩) 1 1 [x] rfl (SR.of_blk (E := canE) (l := [x]) (t := 73) (Blk.new_ (by simp) rfl)) (by simp) (by simp; have := H0.out; omega) rfl rfl ?_; rw [H1.out]; intro A5 c5 w5 hO5 hb5 hg5; rw [H2.out] at hO5 ⊢)
      go_roundw
      case rel => exact ⟨k + 1, A5, c5, by omega, by go_num, rfl, by rw [HLL.out]; exact hO5, (by repeat' (first | with_reducible exact Below.refl _ _ | with_reducible assumption | with_reducible apply Below.drew | with_reducible apply below_drewN | with_reducible apply Below.alloc | with_reducible apply Below.setCell | (with_reducible refine Below.trans ?_ (Below.mono (by assumption) ?_)) | (simp; done) | (simp; omega) | omega | with_reducible apply le_size_alloc | with_reducible apply le_size_drewN | with_reducible apply le_size_drew | with_reducible apply le_size_setCell | refine Nat.le_trans ?_ (Below.size (by assumption))))⟩
      case measure => simp [intOf]; omega
    · obtain rfl : k = L.length := by omega
      have hO := HO.out
      rw [List.take_length] at hO
      have HOO := Lib.hid hO
      have i2 : ¬ (L.length : Int) < xs.length := by rw [HXL.out]; omega
      clear HO hO hlt
      go_wp2
      refine bodyPost_ret (v := .slice A3 L.length c3) (by simp [results, Tryz.results43, go_sem]) rfl ?_
      exact ⟨A3, c3, rfl, OwnR.base_ HOO.out z1, (by repeat' (first | with_reducible exact Below.refl _ _ | with_reducible assumption | with_reducible apply Below.drew | with_reducible apply below_drewN | with_reducible apply Below.alloc | with_reducible apply Below.setCell | (with_reducible refine Below.trans ?_ (Below.mono (by assumption) ?_)) | (simp; done) | (simp; omega) | omega | with_reducible apply le_size_alloc | with_reducible apply le_size_drewN | with_reducible apply le_size_drew | with_reducible apply le_size_setCell | refine Nat.le_trans ?_ (Below.size (by assumption))))⟩
end Go.Proofs.YtmbpjafiinfkkaaGreatDoor
