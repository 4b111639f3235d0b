/- oom.Ranks: what it hands back lies in new memory. No statement is proved here. -/
import Derived.Test.YtmbpjafiinfkkaaGreatDoorOM2
namespace Go.Proofs.YtmbpjafiinfkkaaGreatDoor
set_option linter.unusedSimpArgs false
set_option linter.unusedVariables false
open Go.RowKit Go.Maps

def RnkOwn (l : List PV) (sp : List Int) (w : World) (e : Ending) (w' : World) : Prop :=
  (∃ A c, e = .returned (.tuple #[.slice A (rnkL l sp).length c, .int .i64 0]) ∧ OwnR intE w' w.heap.size (.slice A (rnkL l sp).length c) (rnkL l sp)) ∧ Below w.heap.size w w'
set_option maxRecDepth 100000 in
set_option maxHeartbeats 4000000 in
theorem Ranks_own (A : Option Addr) (c : Nat) (l : List PV) (B : Option Addr) (d : Nat) (sp : List Int) (w : World) (hal : AL w) (hs : SR procE w A l) (ll : l.length ≤ 1000) (hp : Sl w (.int .i64) B sp) (lp : sp.length ≤ 1000) (h0 : rnkE l sp = 0) :
    Calls Tryz.prog 18 #[.slice A l.length c, .slice B sp.length d] w (RnkOwn l sp w) := by
  have hC := candidates_any A c l B d sp w hal hs ll hp lp
  unfold CanPost at hC
  have hlen := rnkE_ok h0
  have hc8 := candL_len l sp
  have HP : ∀ (S : List Int) (e : Ending) (w' : World) (A : Option Addr) (c : Nat), rnkL l sp = S → e = .returned (.tuple #[.slice A S.length c, .int .i64 0]) → OwnR intE w' w.heap.size (.slice A S.length c) S → Below w.heap.size w w' → RnkOwn l sp w e w' := fun S e' w' A' c' hS he hsl hb => by
    unfold RnkOwn
    rw [hS]
    exact ⟨⟨A', c', he, hsl⟩, hb⟩
  have hr : rnkL l sp = (srtC (candL l sp)).map (·.1) := rfl
  rw [hr] at HP
  rw [h0] at hC
  have HA := Lib.hid (candL_asc l sp)
  have HM := Lib.hid (candL_mem l sp)
  generalize candL l sp = L at *
  generalize candF l sp l.length = m at *
  have hSL := srtC_len L
  clear h0 hs hp hr
  go_enter Tryz.func18, Tryz.ntmps18
  go_wp2_with fail
  refine hC.mono ?_
  rintro e w1 ⟨⟨mb, rfl, hmb⟩, hb1⟩
  obtain ⟨Bm, rfl, hB1, hM⟩ := hmb (by simp)
  clear hmb hC
  have z1 := hb1.size
  have hLi := listed_any Bm 8 m L w1 hM (by omega) HA.out HM.out (by omega)
  clear HA HM hM
  go_wp2_with (first
    | (go_at_call 43; refine hLi.mono ?_; rintro e w2 ⟨A2, c2, rfl, hO2, hb2⟩; have z2 := hb2.size; have hM2 := sortF_own w1.heap.size A2 c2 L w2 hO2 (by omega))
    | (go_at_call 45; refine hM2.mono ?_; rintro e w3 ⟨rfl, hO3, hb3⟩))
  have z3 := hb3.size
  have HR3 := Lib.hid (OwnR.sr hO3).2
  have B3 : Below w.heap.size w w3 := hb1.trans ((hb2.trans hb3).mono z1)
  obtain ⟨S, hS⟩ : ∃ S, srtC L = S := ⟨_, rfl⟩
  rw [hS] at HR3 hSL HP
  obtain ⟨n, hn⟩ : ∃ n, L.length = n := ⟨_, rfl⟩
  rw [hn] at hSL hc8
  have HSL := Lib.hid hSL
  clear hO3 hO2 hLi hM2 hb2 hb3 hS hSL
  rw [hn]
  clear hn
  go_loopw [27, 9] (fun i s wr => ∃ (k : Nat) (A : Option Addr) (c : Nat), k ≤ n ∧ i = .int .i64 k ∧ s = .slice A k c ∧ Hid (OwnR intE wr w3.heap.size (.slice A k c) ((S.take k).map (·.1))) ∧ Below w3.heap.size w3 wr) (fun i _ _ => n - (intOf i).toNat)
  case atStart => exact ⟨0, none, 0, by omega, rfl, rfl, OwnR.nil, Below.refl _ _⟩
  case round =>
    obtain ⟨k, A3, c3, hk, rfl, rfl, HO, hbw⟩ := hrel
    have zw := hbw.size
    by_cases hlt : k < n
    · obtain ⟨b, off, x, rfl, hbl, hx, hq0, hq1⟩ := can_at (HR3.out.ext hbw) (show k < S.length by rw [HSL.out]; exact hlt)
      have i1 : (k : Int) < n := by omega
      have hl0 : ((S.take k).map (·.1)).length = k := by rw [List.length_map, List.length_take, HSL.out]; omega
      have hl1 : (S.take k).map (·.1) ++ [x.1] = (S.take (k + 1)).map (·.1) := by rw [take_snocG hx]; simp
      have hl2 : ((S.take (k + 1)).map (·.1)).length = k + 1 := by rw [List.length_map, List.length_take, HSL.out]; omega
      have hO : OwnR intE wr w3.heap.size (.slice A3 ((S.take k).map (·.1)).length c3) ((S.take k).map (·.1)) := by rw [hl0]; exact HO.out
      generalize (S.take k).map (·.1) = l0 at hl0 hl1 hO
      obtain ⟨l', hl'⟩ : ∃ l', (S.take (k + 1)).map (·.1) = l' := ⟨_, rfl⟩
      rw [hl'] at hl1 hl2
      have HLL := Lib.hid hl'
      have H0 := Lib.hid hl0; have H1 := Lib.hid hl1; have H2 := Lib.hid hl2; have HOO := Lib.hid hO
      clear hl' hx HO hl0 hl1 hl2 hO
      go_wp2_with (at_builtin; refine wpList_ownR intE rfl (.tmp 31) (.tmp 34) _ rfl rfl _ w3.heap.size (by simp; omega) A3 c3 k l0 H0.out.symm (HOO.out.ext (by repeat' (first | with_reducible exact Below.refl _ _ | with_reducible assumption | with_reducible apply Below.drew | with_reducible apply below_drewN | with_reducible apply Below.alloc | with_reducible apply Below.setCell | (with_reducible refine Below.trans ?_ (Below.mono (by assumption) ?_)) | (simp; done) | (simp; omega) | omega | with_reducible apply le_size_alloc | with_reducible apply le_size_drewN | with_reducible apply le_size_drew | with_reducible apply le_size_setCell | refine Nat.le_trans ?_ (Below.size (by assumption))))) (some ⟨wr.heap.size + 1, 0, none⟩) 1 1 [x.1] rfl (SR.of_blk (E := intE) (l := [x.1]) (t := 3) (Blk.new_ (by simp) rfl)) (by simp) (by simp; have := H0.out; omega) rfl rfl ?_; rw [H1.out]; intro A5 c5 w5 hO5 hb5 hg5; rw [H2.out] at hO5 ⊢)
      go_roundw
      case rel => exact ⟨k + 1, A5, c5, by omega, by go_num, rfl, by rw [HLL.out]; exact hO5, (by repeat' (first | with_reducible exact Below.refl _ _ | with_reducible assumption | with_reducible apply Below.drew | with_reducible apply below_drewN | with_reducible apply Below.alloc | with_reducible apply Below.setCell | (with_reducible refine Below.trans ?_ (Below.mono (by assumption) ?_)) | (simp; done) | (simp; omega) | omega | with_reducible apply le_size_alloc | with_reducible apply le_size_drewN | with_reducible apply le_size_drew | with_reducible apply le_size_setCell | refine Nat.le_trans ?_ (Below.size (by assumption))))⟩
      case measure => simp [intOf]; omega
    · obtain rfl : k = n := by omega
      have hO := HO.out
      rw [List.take_of_length_le (by rw [HSL.out]; exact Nat.le_refl _)] at hO
      have HOO := Lib.hid hO
      clear HO hO hlt
      go_wp2
      refine bodyPost_ret (v := .tuple #[.slice A3 k c3, .int .i64 0]) (by simp [results, Tryz.results18, go_sem]) rfl ?_
      exact HP _ _ _ A3 c3 rfl (by rw [List.length_map, HSL.out]) (by rw [List.length_map, HSL.out]; exact OwnR.base_ HOO.out B3.size) (B3.trans (hbw.mono B3.size))
end Go.Proofs.YtmbpjafiinfkkaaGreatDoor
