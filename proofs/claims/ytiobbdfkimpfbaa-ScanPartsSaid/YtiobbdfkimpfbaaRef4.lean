/- Contracts of headgateref07: Demote, Promote, Order. Written by gen_ref4.py. -/
import Derived.Test.YtiobbdfkimpfbaaRef3
namespace Go.Proofs.Ytiobbdfkimpfbaa
set_option linter.unusedSimpArgs false
set_option linter.unusedVariables false
open Go.RowKit Go.Maps

set_option maxHeartbeats 800000 in
theorem RDemote_bad (Aa Ai Ar : Option Addr) (ca ci cr : Nat) (xs ys : List Int) (rs : List Bool) (w : World) (hm : InMem w Aa Ai Ar xs ys rs) (z : Int) (hc : lruChk xs ys rs = z) (hz : z ≠ 0) :
    Calls Try.prog 42 #[.agg #[.slice Aa xs.length ca, .slice Ai ys.length ci, .slice Ar rs.length cr]] w (LPost3 (.bad z) 0 w) := by
  have HM := Lib.hid hm; have HC := Lib.hid hc
  have hne : (z != 0) = true := by simpa using hz
  have hne' : (z == 0) = false := by simpa using hz
  clear hz
  clear hm hc
  go_enter Try.func42, Try.ntmps42
  go_wp2_with fail
  have hm1 := HM.out.ext (w' := ((w.alloc (.cells #[.slice Aa xs.length ca, .slice Ai ys.length ci, .slice Ar rs.length cr] 25)).alloc (.cells #[.slice none 0 0, .slice none 0 0, .slice none 0 0] 25))) (by repeat' (first | with_reducible exact Below.refl _ _ | with_reducible assumption | with_reducible apply Below.drew | with_reducible apply below_drewN | with_reducible apply Below.alloc | with_reducible apply Below.setCell | (with_reducible refine Below.trans ?_ (Below.mono (by assumption) ?_)) | (simp; done) | (simp; omega) | omega | with_reducible apply le_size_alloc | with_reducible apply le_size_drewN | with_reducible apply le_size_drew | with_reducible apply le_size_setCell | refine Nat.le_trans ?_ (Below.size (by assumption))))
  refine (RCheck_any _ _ _ _ _ _ _ _ _ _ hm1).mono ?_
  rw [HC.out]
  rintro e w1 ⟨rfl, hb1⟩
  have hbl1 : Below (w.heap.size + 2) ((w.alloc (.cells #[.slice Aa xs.length ca, .slice Ai ys.length ci, .slice Ar rs.length cr] 25)).alloc (.cells #[.slice none 0 0, .slice none 0 0, .slice none 0 0] 25)) w1 := (by repeat' (first | with_reducible exact Below.refl _ _ | with_reducible assumption | with_reducible apply Below.drew | with_reducible apply below_drewN | with_reducible apply Below.alloc | with_reducible apply Below.setCell | (with_reducible refine Below.trans ?_ (Below.mono (by assumption) ?_)) | (simp; done) | (simp; omega) | omega | with_reducible apply le_size_alloc | with_reducible apply le_size_drewN | with_reducible apply le_size_drew | with_reducible apply le_size_setCell | refine Nat.le_trans ?_ (Below.size (by assumption))))
  have p0 : w1.cell? ⟨w.heap.size, 0, none⟩ = some (.slice Aa xs.length ca) := cell_keep hbl1 (by simp) (by simp)
  have p1 : w1.cell? ⟨w.heap.size, 1, none⟩ = some (.slice Ai ys.length ci) := cell_keep hbl1 (by simp) (by simp)
  have p2 : w1.cell? ⟨w.heap.size, 2, none⟩ = some (.slice Ar rs.length cr) := cell_keep hbl1 (by simp) (by simp)
  have q0 : w1.cell? ⟨w.heap.size + 1, 0, none⟩ = some (.slice none 0 0) := cell_keep hbl1 (by simp) (by simp)
  have q1 : w1.cell? ⟨w.heap.size + 1, 1, none⟩ = some (.slice none 0 0) := cell_keep hbl1 (by simp) (by simp)
  have q2 : w1.cell? ⟨w.heap.size + 1, 2, none⟩ = some (.slice none 0 0) := cell_keep hbl1 (by simp) (by simp)
  have q3 : w1.frozen? ⟨w.heap.size + 1, 0, none⟩ = false := frozen_keep hbl1 (by simp) (by simp)
  have q4 : w1.frozen? ⟨w.heap.size + 1, 1, none⟩ = false := frozen_keep hbl1 (by simp) (by simp)
  have q5 : w1.frozen? ⟨w.heap.size + 1, 2, none⟩ = false := frozen_keep hbl1 (by simp) (by simp)
  go_wp2
  refine bodyPost_ret (v := .tuple #[.agg #[.slice none 0 0, .slice none 0 0, .slice none 0 0], .int .i64 0, .int .i64 z]) (by simp [results, Try.results42, go_sem, q0, q1, q2]) rfl ?_
  exact LPost3.of_bad ⟨rfl, (by repeat' (first | with_reducible exact Below.refl _ _ | with_reducible assumption | with_reducible apply Below.drew | with_reducible apply below_drewN | with_reducible apply Below.alloc | with_reducible apply Below.setCell | (with_reducible refine Below.trans ?_ (Below.mono (by assumption) ?_)) | (simp; done) | (simp; omega) | omega | with_reducible apply le_size_alloc | with_reducible apply le_size_drewN | with_reducible apply le_size_drew | with_reducible apply le_size_setCell | refine Nat.le_trans ?_ (Below.size (by assumption))))⟩

set_option maxHeartbeats 800000 in
theorem RDemote_none (Aa Ai Ar : Option Addr) (ca ci cr : Nat) (xs ys : List Int) (rs : List Bool) (w : World) (hm : InMem w Aa Ai Ar xs ys rs) (hc : lruChk xs ys rs = 0) (h0 : xs.length ≤ 0) :
    Calls Try.prog 42 #[.agg #[.slice Aa xs.length ca, .slice Ai ys.length ci, .slice Ar rs.length cr]] w (LPost3 (.bad 6) 0 w) := by
  have HM := Lib.hid hm; have HC := Lib.hid hc
  have hne : ((xs.length : Int) == 0) = true := by simp; exact List.eq_nil_of_length_eq_zero (by omega)
  clear hm hc
  go_enter Try.func42, Try.ntmps42
  go_wp2_with fail
  have hm1 := HM.out.ext (w' := ((w.alloc (.cells #[.slice Aa xs.length ca, .slice Ai ys.length ci, .slice Ar rs.length cr] 25)).alloc (.cells #[.slice none 0 0, .slice none 0 0, .slice none 0 0] 25))) (by repeat' (first | with_reducible exact Below.refl _ _ | with_reducible assumption | with_reducible apply Below.drew | with_reducible apply below_drewN | with_reducible apply Below.alloc | with_reducible apply Below.setCell | (with_reducible refine Below.trans ?_ (Below.mono (by assumption) ?_)) | (simp; done) | (simp; omega) | omega | with_reducible apply le_size_alloc | with_reducible apply le_size_drewN | with_reducible apply le_size_drew | with_reducible apply le_size_setCell | refine Nat.le_trans ?_ (Below.size (by assumption))))
  refine (RCheck_any _ _ _ _ _ _ _ _ _ _ hm1).mono ?_
  rw [HC.out]
  rintro e w1 ⟨rfl, hb1⟩
  have hbl1 : Below (w.heap.size + 2) ((w.alloc (.cells #[.slice Aa xs.length ca, .slice Ai ys.length ci, .slice Ar rs.length cr] 25)).alloc (.cells #[.slice none 0 0, .slice none 0 0, .slice none 0 0] 25)) w1 := (by repeat' (first | with_reducible exact Below.refl _ _ | with_reducible assumption | with_reducible apply Below.drew | with_reducible apply below_drewN | with_reducible apply Below.alloc | with_reducible apply Below.setCell | (with_reducible refine Below.trans ?_ (Below.mono (by assumption) ?_)) | (simp; done) | (simp; omega) | omega | with_reducible apply le_size_alloc | with_reducible apply le_size_drewN | with_reducible apply le_size_drew | with_reducible apply le_size_setCell | refine Nat.le_trans ?_ (Below.size (by assumption))))
  have p0 : w1.cell? ⟨w.heap.size, 0, none⟩ = some (.slice Aa xs.length ca) := cell_keep hbl1 (by simp) (by simp)
  have p1 : w1.cell? ⟨w.heap.size, 1, none⟩ = some (.slice Ai ys.length ci) := cell_keep hbl1 (by simp) (by simp)
  have p2 : w1.cell? ⟨w.heap.size, 2, none⟩ = some (.slice Ar rs.length cr) := cell_keep hbl1 (by simp) (by simp)
  have q0 : w1.cell? ⟨w.heap.size + 1, 0, none⟩ = some (.slice none 0 0) := cell_keep hbl1 (by simp) (by simp)
  have q1 : w1.cell? ⟨w.heap.size + 1, 1, none⟩ = some (.slice none 0 0) := cell_keep hbl1 (by simp) (by simp)
  have q2 : w1.cell? ⟨w.heap.size + 1, 2, none⟩ = some (.slice none 0 0) := cell_keep hbl1 (by simp) (by simp)
  have q3 : w1.frozen? ⟨w.heap.size + 1, 0, none⟩ = false := frozen_keep hbl1 (by simp) (by simp)
  have q4 : w1.frozen? ⟨w.heap.size + 1, 1, none⟩ = false := frozen_keep hbl1 (by simp) (by simp)
  have q5 : w1.frozen? ⟨w.heap.size + 1, 2, none⟩ = false := frozen_keep hbl1 (by simp) (by simp)
  go_wp2
  refine bodyPost_ret (v := .tuple #[.agg #[.slice none 0 0, .slice none 0 0, .slice none 0 0], .int .i64 0, .int .i64 6]) (by simp [results, Try.results42, go_sem, q0, q1, q2]) rfl ?_
  exact LPost3.of_bad ⟨rfl, (by repeat' (first | with_reducible exact Below.refl _ _ | with_reducible assumption | with_reducible apply Below.drew | with_reducible apply below_drewN | with_reducible apply Below.alloc | with_reducible apply Below.setCell | (with_reducible refine Below.trans ?_ (Below.mono (by assumption) ?_)) | (simp; done) | (simp; omega) | omega | with_reducible apply le_size_alloc | with_reducible apply le_size_drewN | with_reducible apply le_size_drew | with_reducible apply le_size_setCell | refine Nat.le_trans ?_ (Below.size (by assumption))))⟩

set_option maxRecDepth 100000 in
set_option maxHeartbeats 2000000 in
theorem RDemote_ok (Aa Ai Ar : Option Addr) (ca ci cr : Nat) (xs ys : List Int) (rs : List Bool) (w : World) (hm : InMem w Aa Ai Ar xs ys rs) (hc : lruChk xs ys rs = 0) (h0 : 0 < xs.length) :
    Calls Try.prog 42 #[.agg #[.slice Aa xs.length ca, .slice Ai ys.length ci, .slice Ar rs.length cr]] w (LPost3 ⟨dX xs ys, dY xs ys, rs.set (lastF xs).toNat false, 0⟩ (lastF xs) w) := by
  have hv := valid_of_chk hc
  have hlen := hv.len
  have hhi := hv.hi
  have hnd := List.nodup_append.1 hv.nodup
  obtain ⟨f, hf⟩ : ∃ f, lastF xs = f := ⟨_, rfl⟩
  have hfm : f ∈ xs := by rw [← hf]; exact lastF_mem h0
  obtain ⟨f0, f1⟩ := hv.range f (by simp [hfm])
  have hfo : f ∉ ys := fun ho => hnd.2.2 f hfm f ho rfl
  have hch := chd_of hc f0 f1
  have hwh : fWhere xs ys f ≠ 0 := by
    unfold fWhere
    rw [if_pos hfm]; simp
  have hwo : wo f xs = xs.eraseIdx (xs.length - 1) := by rw [← hf]; exact wo_lastF hnd.1 h0
  have hws : wo f ys = ys := wo_self hfo
  have hchk := chk_dem hv h0 f.toNat
  obtain ⟨us, has⟩ : ∃ us, xs.eraseIdx (xs.length - 1) = us := ⟨_, rfl⟩
  obtain ⟨bs, hbs⟩ : ∃ bs, ys = bs := ⟨_, rfl⟩
  obtain ⟨rt, hrt⟩ : ∃ rt, rs.set f.toNat false = rt := ⟨_, rfl⟩
  obtain ⟨vs, hvs⟩ : ∃ vs, [f] ++ bs = vs := ⟨_, rfl⟩
  have la : us.length ≤ 256 := by rw [← has]; have := List.length_eraseIdx_le xs (xs.length - 1); omega
  have lb : bs.length ≤ 256 := by rw [← hbs]; omega
  have eX : dX xs ys = us := by rw [← has]; rfl
  have eY : dY xs ys = vs := by rw [← hvs, ← hbs, ← hf]; rfl
  rw [eX, eY, hrt] at hchk
  rw [hf, eX, eY, hrt]
  have HM := Lib.hid hm; have HC := Lib.hid hc; have HCH := Lib.hid hch; have HWH := Lib.hid hwh; have HCK := Lib.hid hchk; have HVS := Lib.hid hvs
  have HAS : Hid (wo f xs = us) := hwo.trans has
  have HBS : Hid (wo f ys = bs) := hws.trans hbs
  have HRT := Lib.hid hrt; have HF := Lib.hid hf
  have hne : ((xs.length : Int) == 0) = false := by simp; intro e; rw [e] at h0; simp at h0
  obtain ⟨i0, hi0, hz0, hz1, hz2⟩ := info_parts intInfo
  clear hm hc hv hnd hfm hfo hch hwh hwo hws hchk has hbs hrt hvs eX eY hf
  go_enter Try.func42, Try.ntmps42
  go_wp2_with fail
  have hm1 := HM.out.ext (w' := ((w.alloc (.cells #[.slice Aa xs.length ca, .slice Ai ys.length ci, .slice Ar rs.length cr] 25)).alloc (.cells #[.slice none 0 0, .slice none 0 0, .slice none 0 0] 25))) (by repeat' (first | with_reducible exact Below.refl _ _ | with_reducible assumption | with_reducible apply Below.drew | with_reducible apply below_drewN | with_reducible apply Below.alloc | with_reducible apply Below.setCell | (with_reducible refine Below.trans ?_ (Below.mono (by assumption) ?_)) | (simp; done) | (simp; omega) | omega | with_reducible apply le_size_alloc | with_reducible apply le_size_drewN | with_reducible apply le_size_drew | with_reducible apply le_size_setCell | refine Nat.le_trans ?_ (Below.size (by assumption))))
  refine (RCheck_any _ _ _ _ _ _ _ _ _ _ hm1).mono ?_
  rw [HC.out]
  rintro e w1 ⟨rfl, hb1⟩
  have hbl1 : Below (w.heap.size + 2) ((w.alloc (.cells #[.slice Aa xs.length ca, .slice Ai ys.length ci, .slice Ar rs.length cr] 25)).alloc (.cells #[.slice none 0 0, .slice none 0 0, .slice none 0 0] 25)) w1 := (by repeat' (first | with_reducible exact Below.refl _ _ | with_reducible assumption | with_reducible apply Below.drew | with_reducible apply below_drewN | with_reducible apply Below.alloc | with_reducible apply Below.setCell | (with_reducible refine Below.trans ?_ (Below.mono (by assumption) ?_)) | (simp; done) | (simp; omega) | omega | with_reducible apply le_size_alloc | with_reducible apply le_size_drewN | with_reducible apply le_size_drew | with_reducible apply le_size_setCell | refine Nat.le_trans ?_ (Below.size (by assumption))))
  have p0 : w1.cell? ⟨w.heap.size, 0, none⟩ = some (.slice Aa xs.length ca) := cell_keep hbl1 (by simp) (by simp)
  have p1 : w1.cell? ⟨w.heap.size, 1, none⟩ = some (.slice Ai ys.length ci) := cell_keep hbl1 (by simp) (by simp)
  have p2 : w1.cell? ⟨w.heap.size, 2, none⟩ = some (.slice Ar rs.length cr) := cell_keep hbl1 (by simp) (by simp)
  obtain ⟨b, off, x, hA, hbl, hx, hcx⟩ := (hm1.ext hb1).a.at_ (k := xs.length - 1) (by omega)
  obtain rfl : f = x := HF.out.symm.trans (lastF_at rfl hx)
  have t1 : (1 : Int) ≤ xs.length := by omega
  subst hA
  have M1 := Lib.hid (hm1.ext hb1)
  clear hx hm1
  go_wp2_with fail
  refine (RRemove_ok _ _ _ _ _ _ _ _ _ _ _ M1.out _ HCH.out rfl HWH.out).mono ?_
  rw [HAS.out, HBS.out, HRT.out]
  rintro e w3 ⟨D1, d1, D2, d2, D3, d3, rfl, hL, hb3⟩
  have s2 : w.heap.size + 2 ≤ w1.heap.size := by
    have := hbl1.size
    simp at this
    exact this
  have s3 : w1.heap.size ≤ w3.heap.size := hb3.size
  have s4 : w.heap.size + 1 < w3.heap.size := by omega
  have s5 : ¬ w.heap.size + 1 = w3.heap.size := by omega
  have hbl3 : Below (w.heap.size + 2) ((w.alloc (.cells #[.slice (some ⟨b, off, none⟩) xs.length ca, .slice Ai ys.length ci, .slice Ar rs.length cr] 25)).alloc (.cells #[.slice none 0 0, .slice none 0 0, .slice none 0 0] 25)) w3 := (by repeat' (first | with_reducible exact Below.refl _ _ | with_reducible assumption | with_reducible apply Below.drew | with_reducible apply below_drewN | with_reducible apply Below.alloc | with_reducible apply Below.setCell | (with_reducible refine Below.trans ?_ (Below.mono (by assumption) ?_)) | (simp; done) | (simp; omega) | omega | with_reducible apply le_size_alloc | with_reducible apply le_size_drewN | with_reducible apply le_size_drew | with_reducible apply le_size_setCell | refine Nat.le_trans ?_ (Below.size (by assumption))))
  have rs1 := RS.start hL
  have hof : Own ((w3.alloc (.cells #[.slice D1 us.length d1, .slice D2 bs.length d2, .slice D3 rt.length d3] 25)).alloc (.cells #[.int .i64 f] 3)) w1.heap.size 3 (Value.int .i64) (.slice (some ⟨w3.heap.size + 1, 0, none⟩) [f].length 1) [f] :=
    Own.of_blk (cur := #[.int .i64 f]) (Blk.new_ (by simp) rfl) (by omega) (by simp) (by simp [maxLen]) (fun j x hx => by cases j <;> simp_all)
  have hsx : Sl ((w3.alloc (.cells #[.slice D1 us.length d1, .slice D2 bs.length d2, .slice D3 rt.length d3] 25)).alloc (.cells #[.int .i64 f] 3)) (Value.int .i64) D2 bs := (rs1.own.i.sl_).ext (by repeat' (first | with_reducible exact Below.refl _ _ | with_reducible assumption | with_reducible apply Below.drew | with_reducible apply below_drewN | with_reducible apply Below.alloc | with_reducible apply Below.setCell | (with_reducible refine Below.trans ?_ (Below.mono (by assumption) ?_)) | (simp; done) | (simp; omega) | omega | with_reducible apply le_size_alloc | with_reducible apply le_size_drewN | with_reducible apply le_size_drew | with_reducible apply le_size_setCell | refine Nat.le_trans ?_ (Below.size (by assumption))))
  have RS1 := Lib.hid rs1; have HOF := Lib.hid hof; have HSX := Lib.hid hsx
  clear p0 p1 p2 hb1 hb3 hbl1 hL rs1 hof hsx hcx
  go_wp2_with (at_builtin; refine wpList_appS (mk := Value.int .i64) _ rfl (.tmp 38) (.tmp 40) _ rfl 3 i0 _ 8 Try.underlying22 hi0 hz0 hz1 hz2 rfl w1.heap.size (some ⟨w3.heap.size + 1, 0, none⟩) 1 [f] rfl HOF.out D2 d2 bs rfl HSX.out (int_one bs) (by simp; omega) (by simp; omega) (by simp; omega) ?_
               intro A5 c5 w5 ho5 hg5 hl5
               rw [HVS.out] at ho5
               rw [HVS.out]
               have hbl5 : Below (w3.heap.size + 1) (w3.alloc (.cells #[.slice D1 us.length d1, .slice D2 bs.length d2, .slice D3 rt.length d3] 25)) w5 := ((Below.refl _ _).alloc (by simp) _).grown hg5 (by simp) (fun k hk => by cases hk; exact Nat.le_refl _)
               have hg6 : (w3.alloc (.cells #[.slice D1 us.length d1, .slice D2 bs.length d2, .slice D3 rt.length d3] 25)).grownBy w5 (D2.map (·.block)) := ⟨hbl5.os, hbl5.tape, hbl5.output, hbl5.size, fun k hk _ => hbl5.block k (by simpa using hk)⟩
               have hl6 : A5.map (·.block) = D2.map (·.block) ∨ ∃ g, A5.map (·.block) = some g ∧ (w3.alloc (.cells #[.slice D1 us.length d1, .slice D2 bs.length d2, .slice D3 rt.length d3] 25)).heap.size ≤ g := by
                 rcases hl5 with h | ⟨g, h, hg⟩
                 · exact .inr ⟨w3.heap.size + 1, h, by simp⟩
                 · exact .inr ⟨g, h, by simp at hg ⊢; omega⟩
               have rs4 := RS1.out.inact hg6 ho5 hl6
               have bk := RS1.out.blk.below_ hbl5 (by simp)
               have k0 := (bk.cell_ 0).trans (by simp : _ = some (.slice D1 us.length d1))
               have k1 := (bk.cell_ 1).trans (by simp : _ = some (.slice D2 bs.length d2))
               have k2 := (bk.cell_ 2).trans (by simp : _ = some (.slice D3 rt.length d3))
               have k3 := bk.frozen_ 1
               have b6 : Below (w.heap.size + 2) ((w.alloc (.cells #[.slice (some ⟨b, off, none⟩) xs.length ca, .slice Ai ys.length ci, .slice Ar rs.length cr] 25)).alloc (.cells #[.slice none 0 0, .slice none 0 0, .slice none 0 0] 25)) w5 := (hbl3.alloc (by omega) _).trans (hbl5.mono (by omega))
               have z5 : w3.heap.size < w5.heap.size := by have := hbl5.size; simp at this; omega
               have RS4 := Lib.hid rs4; have B6 := Lib.hid b6
               have q0 : w5.cell? ⟨w.heap.size + 1, 0, none⟩ = some (.slice none 0 0) := cell_keep b6 (by simp) (by simp)
               have q1 : w5.cell? ⟨w.heap.size + 1, 1, none⟩ = some (.slice none 0 0) := cell_keep b6 (by simp) (by simp)
               have q2 : w5.cell? ⟨w.heap.size + 1, 2, none⟩ = some (.slice none 0 0) := cell_keep b6 (by simp) (by simp)
               have q3 : w5.frozen? ⟨w.heap.size + 1, 0, none⟩ = false := frozen_keep b6 (by simp) (by simp)
               have q4 : w5.frozen? ⟨w.heap.size + 1, 1, none⟩ = false := frozen_keep b6 (by simp) (by simp)
               have q5 : w5.frozen? ⟨w.heap.size + 1, 2, none⟩ = false := frozen_keep b6 (by simp) (by simp)
               clear ho5 hg5 hl5 hbl5 hg6 hl6 rs4 bk b6)
  unfold LPost3
  refine bodyPost_ret (v := .tuple #[.agg #[.slice D1 us.length d1, .slice A5 vs.length c5, .slice D3 rt.length d3], .int .i64 f, .int .i64 0]) (by simp [results, Try.results42, go_sem, q0, q1, q2]) rfl ?_
  have o := RS4.out.own
  have o' := (((o.far_ (g := w.heap.size + 1) 0 (.slice D1 us.length d1) (by omega)).far_ (g := w.heap.size + 1) 1 (.slice A5 vs.length c5) (by omega)).far_ (g := w.heap.size + 1) 2 (.slice D3 rt.length d3) (by omega)).base_ (base' := w.heap.size) (by omega)
  refine ⟨D1, d1, A5, c5, D3, d3, rfl, o'.memV HCK.out, o'.new_, ?_⟩
  have hb6 : Below w.heap.size w w5 := ((Below.refl _ _).alloc (Nat.le_refl _) _ |>.alloc (by simp) _).trans (B6.out.mono (by omega))
  exact (by repeat' (first | with_reducible exact Below.refl _ _ | with_reducible assumption | with_reducible apply Below.drew | with_reducible apply below_drewN | with_reducible apply Below.alloc | with_reducible apply Below.setCell | (with_reducible refine Below.trans ?_ (Below.mono (by assumption) ?_)) | (simp; done) | (simp; omega) | omega | with_reducible apply le_size_alloc | with_reducible apply le_size_drewN | with_reducible apply le_size_drew | with_reducible apply le_size_setCell | refine Nat.le_trans ?_ (Below.size (by assumption))))
theorem RDemote_S (Aa Ai Ar : Option Addr) (ca ci cr : Nat) (xs ys : List Int) (rs : List Bool) (w : World) (hm : InMem w Aa Ai Ar xs ys rs) : Calls Try.prog 42 #[.agg #[.slice Aa xs.length ca, .slice Ai ys.length ci, .slice Ar rs.length cr]] w (LPost3 (demS xs ys rs) (demF xs ys rs) w) := by
  unfold demS demF
  by_cases h0 : lruChk xs ys rs ≠ 0
  · rw [if_pos h0, if_pos h0]
    exact RDemote_bad _ _ _ _ _ _ _ _ _ _ hm _ rfl h0
  · rw [if_neg h0, if_neg h0]
    have h0' : lruChk xs ys rs = 0 := by simpa using h0
    by_cases h1 : xs.length = 0
    · rw [if_pos h1, if_pos h1]
      exact RDemote_none _ _ _ _ _ _ _ _ _ _ hm h0' (by omega)
    · rw [if_neg h1, if_neg h1]
      exact RDemote_ok _ _ _ _ _ _ _ _ _ _ hm h0' (by omega)

set_option maxHeartbeats 800000 in
theorem RPromote_bad (Aa Ai Ar : Option Addr) (ca ci cr : Nat) (xs ys : List Int) (rs : List Bool) (w : World) (hm : InMem w Aa Ai Ar xs ys rs) (z : Int) (hc : lruChk xs ys rs = z) (hz : z ≠ 0) :
    Calls Try.prog 44 #[.agg #[.slice Aa xs.length ca, .slice Ai ys.length ci, .slice Ar rs.length cr]] w (LPost3 (.bad z) 0 w) := by
  have HM := Lib.hid hm; have HC := Lib.hid hc
  have hne : (z != 0) = true := by simpa using hz
  have hne' : (z == 0) = false := by simpa using hz
  clear hz
  clear hm hc
  go_enter Try.func44, Try.ntmps44
  go_wp2_with fail
  have hm1 := HM.out.ext (w' := ((w.alloc (.cells #[.slice Aa xs.length ca, .slice Ai ys.length ci, .slice Ar rs.length cr] 25)).alloc (.cells #[.slice none 0 0, .slice none 0 0, .slice none 0 0] 25))) (by repeat' (first | with_reducible exact Below.refl _ _ | with_reducible assumption | with_reducible apply Below.drew | with_reducible apply below_drewN | with_reducible apply Below.alloc | with_reducible apply Below.setCell | (with_reducible refine Below.trans ?_ (Below.mono (by assumption) ?_)) | (simp; done) | (simp; omega) | omega | with_reducible apply le_size_alloc | with_reducible apply le_size_drewN | with_reducible apply le_size_drew | with_reducible apply le_size_setCell | refine Nat.le_trans ?_ (Below.size (by assumption))))
  refine (RCheck_any _ _ _ _ _ _ _ _ _ _ hm1).mono ?_
  rw [HC.out]
  rintro e w1 ⟨rfl, hb1⟩
  have hbl1 : Below (w.heap.size + 2) ((w.alloc (.cells #[.slice Aa xs.length ca, .slice Ai ys.length ci, .slice Ar rs.length cr] 25)).alloc (.cells #[.slice none 0 0, .slice none 0 0, .slice none 0 0] 25)) w1 := (by repeat' (first | with_reducible exact Below.refl _ _ | with_reducible assumption | with_reducible apply Below.drew | with_reducible apply below_drewN | with_reducible apply Below.alloc | with_reducible apply Below.setCell | (with_reducible refine Below.trans ?_ (Below.mono (by assumption) ?_)) | (simp; done) | (simp; omega) | omega | with_reducible apply le_size_alloc | with_reducible apply le_size_drewN | with_reducible apply le_size_drew | with_reducible apply le_size_setCell | refine Nat.le_trans ?_ (Below.size (by assumption))))
  have p0 : w1.cell? ⟨w.heap.size, 0, none⟩ = some (.slice Aa xs.length ca) := cell_keep hbl1 (by simp) (by simp)
  have p1 : w1.cell? ⟨w.heap.size, 1, none⟩ = some (.slice Ai ys.length ci) := cell_keep hbl1 (by simp) (by simp)
  have p2 : w1.cell? ⟨w.heap.size, 2, none⟩ = some (.slice Ar rs.length cr) := cell_keep hbl1 (by simp) (by simp)
  have q0 : w1.cell? ⟨w.heap.size + 1, 0, none⟩ = some (.slice none 0 0) := cell_keep hbl1 (by simp) (by simp)
  have q1 : w1.cell? ⟨w.heap.size + 1, 1, none⟩ = some (.slice none 0 0) := cell_keep hbl1 (by simp) (by simp)
  have q2 : w1.cell? ⟨w.heap.size + 1, 2, none⟩ = some (.slice none 0 0) := cell_keep hbl1 (by simp) (by simp)
  have q3 : w1.frozen? ⟨w.heap.size + 1, 0, none⟩ = false := frozen_keep hbl1 (by simp) (by simp)
  have q4 : w1.frozen? ⟨w.heap.size + 1, 1, none⟩ = false := frozen_keep hbl1 (by simp) (by simp)
  have q5 : w1.frozen? ⟨w.heap.size + 1, 2, none⟩ = false := frozen_keep hbl1 (by simp) (by simp)
  go_wp2
  refine bodyPost_ret (v := .tuple #[.agg #[.slice none 0 0, .slice none 0 0, .slice none 0 0], .int .i64 0, .int .i64 z]) (by simp [results, Try.results44, go_sem, q0, q1, q2]) rfl ?_
  exact LPost3.of_bad ⟨rfl, (by repeat' (first | with_reducible exact Below.refl _ _ | with_reducible assumption | with_reducible apply Below.drew | with_reducible apply below_drewN | with_reducible apply Below.alloc | with_reducible apply Below.setCell | (with_reducible refine Below.trans ?_ (Below.mono (by assumption) ?_)) | (simp; done) | (simp; omega) | omega | with_reducible apply le_size_alloc | with_reducible apply le_size_drewN | with_reducible apply le_size_drew | with_reducible apply le_size_setCell | refine Nat.le_trans ?_ (Below.size (by assumption))))⟩

set_option maxHeartbeats 800000 in
theorem RPromote_none (Aa Ai Ar : Option Addr) (ca ci cr : Nat) (xs ys : List Int) (rs : List Bool) (w : World) (hm : InMem w Aa Ai Ar xs ys rs) (hc : lruChk xs ys rs = 0) (h0 : ys.length ≤ 0) :
    Calls Try.prog 44 #[.agg #[.slice Aa xs.length ca, .slice Ai ys.length ci, .slice Ar rs.length cr]] w (LPost3 (.bad 6) 0 w) := by
  have HM := Lib.hid hm; have HC := Lib.hid hc
  have hne : ((ys.length : Int) == 0) = true := by simp; exact List.eq_nil_of_length_eq_zero (by omega)
  clear hm hc
  go_enter Try.func44, Try.ntmps44
  go_wp2_with fail
  have hm1 := HM.out.ext (w' := ((w.alloc (.cells #[.slice Aa xs.length ca, .slice Ai ys.length ci, .slice Ar rs.length cr] 25)).alloc (.cells #[.slice none 0 0, .slice none 0 0, .slice none 0 0] 25))) (by repeat' (first | with_reducible exact Below.refl _ _ | with_reducible assumption | with_reducible apply Below.drew | with_reducible apply below_drewN | with_reducible apply Below.alloc | with_reducible apply Below.setCell | (with_reducible refine Below.trans ?_ (Below.mono (by assumption) ?_)) | (simp; done) | (simp; omega) | omega | with_reducible apply le_size_alloc | with_reducible apply le_size_drewN | with_reducible apply le_size_drew | with_reducible apply le_size_setCell | refine Nat.le_trans ?_ (Below.size (by assumption))))
  refine (RCheck_any _ _ _ _ _ _ _ _ _ _ hm1).mono ?_
  rw [HC.out]
  rintro e w1 ⟨rfl, hb1⟩
  have hbl1 : Below (w.heap.size + 2) ((w.alloc (.cells #[.slice Aa xs.length ca, .slice Ai ys.length ci, .slice Ar rs.length cr] 25)).alloc (.cells #[.slice none 0 0, .slice none 0 0, .slice none 0 0] 25)) w1 := (by repeat' (first | with_reducible exact Below.refl _ _ | with_reducible assumption | with_reducible apply Below.drew | with_reducible apply below_drewN | with_reducible apply Below.alloc | with_reducible apply Below.setCell | (with_reducible refine Below.trans ?_ (Below.mono (by assumption) ?_)) | (simp; done) | (simp; omega) | omega | with_reducible apply le_size_alloc | with_reducible apply le_size_drewN | with_reducible apply le_size_drew | with_reducible apply le_size_setCell | refine Nat.le_trans ?_ (Below.size (by assumption))))
  have p0 : w1.cell? ⟨w.heap.size, 0, none⟩ = some (.slice Aa xs.length ca) := cell_keep hbl1 (by simp) (by simp)
  have p1 : w1.cell? ⟨w.heap.size, 1, none⟩ = some (.slice Ai ys.length ci) := cell_keep hbl1 (by simp) (by simp)
  have p2 : w1.cell? ⟨w.heap.size, 2, none⟩ = some (.slice Ar rs.length cr) := cell_keep hbl1 (by simp) (by simp)
  have q0 : w1.cell? ⟨w.heap.size + 1, 0, none⟩ = some (.slice none 0 0) := cell_keep hbl1 (by simp) (by simp)
  have q1 : w1.cell? ⟨w.heap.size + 1, 1, none⟩ = some (.slice none 0 0) := cell_keep hbl1 (by simp) (by simp)
  have q2 : w1.cell? ⟨w.heap.size + 1, 2, none⟩ = some (.slice none 0 0) := cell_keep hbl1 (by simp) (by simp)
  have q3 : w1.frozen? ⟨w.heap.size + 1, 0, none⟩ = false := frozen_keep hbl1 (by simp) (by simp)
  have q4 : w1.frozen? ⟨w.heap.size + 1, 1, none⟩ = false := frozen_keep hbl1 (by simp) (by simp)
  have q5 : w1.frozen? ⟨w.heap.size + 1, 2, none⟩ = false := frozen_keep hbl1 (by simp) (by simp)
  go_wp2
  refine bodyPost_ret (v := .tuple #[.agg #[.slice none 0 0, .slice none 0 0, .slice none 0 0], .int .i64 0, .int .i64 6]) (by simp [results, Try.results44, go_sem, q0, q1, q2]) rfl ?_
  exact LPost3.of_bad ⟨rfl, (by repeat' (first | with_reducible exact Below.refl _ _ | with_reducible assumption | with_reducible apply Below.drew | with_reducible apply below_drewN | with_reducible apply Below.alloc | with_reducible apply Below.setCell | (with_reducible refine Below.trans ?_ (Below.mono (by assumption) ?_)) | (simp; done) | (simp; omega) | omega | with_reducible apply le_size_alloc | with_reducible apply le_size_drewN | with_reducible apply le_size_drew | with_reducible apply le_size_setCell | refine Nat.le_trans ?_ (Below.size (by assumption))))⟩

set_option maxRecDepth 100000 in
set_option maxHeartbeats 2000000 in
theorem RPromote_ok (Aa Ai Ar : Option Addr) (ca ci cr : Nat) (xs ys : List Int) (rs : List Bool) (w : World) (hm : InMem w Aa Ai Ar xs ys rs) (hc : lruChk xs ys rs = 0) (h0 : 0 < ys.length) :
    Calls Try.prog 44 #[.agg #[.slice Aa xs.length ca, .slice Ai ys.length ci, .slice Ar rs.length cr]] w (LPost3 ⟨pX xs ys, pY xs ys, rs.set (lastF ys).toNat false, 0⟩ (lastF ys) w) := by
  have hv := valid_of_chk hc
  have hlen := hv.len
  have hhi := hv.hi
  have hnd := List.nodup_append.1 hv.nodup
  obtain ⟨f, hf⟩ : ∃ f, lastF ys = f := ⟨_, rfl⟩
  have hfm : f ∈ ys := by rw [← hf]; exact lastF_mem h0
  obtain ⟨f0, f1⟩ := hv.range f (by simp [hfm])
  have hfo : f ∉ xs := fun ho => hnd.2.2 f ho f hfm rfl
  have hch := chd_of hc f0 f1
  have hwh : fWhere xs ys f ≠ 0 := by
    unfold fWhere
    rw [if_neg hfo, if_pos hfm]; simp
  have hwo : wo f ys = ys.eraseIdx (ys.length - 1) := by rw [← hf]; exact wo_lastF hnd.2.1 h0
  have hws : wo f xs = xs := wo_self hfo
  have hchk := chk_pro hv h0 f.toNat
  obtain ⟨us, has⟩ : ∃ us, xs = us := ⟨_, rfl⟩
  obtain ⟨bs, hbs⟩ : ∃ bs, ys.eraseIdx (ys.length - 1) = bs := ⟨_, rfl⟩
  obtain ⟨rt, hrt⟩ : ∃ rt, rs.set f.toNat false = rt := ⟨_, rfl⟩
  obtain ⟨vs, hvs⟩ : ∃ vs, [f] ++ us = vs := ⟨_, rfl⟩
  have la : us.length ≤ 256 := by rw [← has]; omega
  have lb : bs.length ≤ 256 := by rw [← hbs]; have := List.length_eraseIdx_le ys (ys.length - 1); omega
  have eX : pX xs ys = vs := by rw [← hvs, ← has, ← hf]; rfl
  have eY : pY xs ys = bs := by rw [← hbs]; rfl
  rw [eX, eY, hrt] at hchk
  rw [hf, eX, eY, hrt]
  have HM := Lib.hid hm; have HC := Lib.hid hc; have HCH := Lib.hid hch; have HWH := Lib.hid hwh; have HCK := Lib.hid hchk; have HVS := Lib.hid hvs
  have HAS : Hid (wo f xs = us) := hws.trans has
  have HBS : Hid (wo f ys = bs) := hwo.trans hbs
  have HRT := Lib.hid hrt; have HF := Lib.hid hf
  have hne : ((ys.length : Int) == 0) = false := by simp; intro e; rw [e] at h0; simp at h0
  obtain ⟨i0, hi0, hz0, hz1, hz2⟩ := info_parts intInfo
  clear hm hc hv hnd hfm hfo hch hwh hwo hws hchk has hbs hrt hvs eX eY hf
  go_enter Try.func44, Try.ntmps44
  go_wp2_with fail
  have hm1 := HM.out.ext (w' := ((w.alloc (.cells #[.slice Aa xs.length ca, .slice Ai ys.length ci, .slice Ar rs.length cr] 25)).alloc (.cells #[.slice none 0 0, .slice none 0 0, .slice none 0 0] 25))) (by repeat' (first | with_reducible exact Below.refl _ _ | with_reducible assumption | with_reducible apply Below.drew | with_reducible apply below_drewN | with_reducible apply Below.alloc | with_reducible apply Below.setCell | (with_reducible refine Below.trans ?_ (Below.mono (by assumption) ?_)) | (simp; done) | (simp; omega) | omega | with_reducible apply le_size_alloc | with_reducible apply le_size_drewN | with_reducible apply le_size_drew | with_reducible apply le_size_setCell | refine Nat.le_trans ?_ (Below.size (by assumption))))
  refine (RCheck_any _ _ _ _ _ _ _ _ _ _ hm1).mono ?_
  rw [HC.out]
  rintro e w1 ⟨rfl, hb1⟩
  have hbl1 : Below (w.heap.size + 2) ((w.alloc (.cells #[.slice Aa xs.length ca, .slice Ai ys.length ci, .slice Ar rs.length cr] 25)).alloc (.cells #[.slice none 0 0, .slice none 0 0, .slice none 0 0] 25)) w1 := (by repeat' (first | with_reducible exact Below.refl _ _ | with_reducible assumption | with_reducible apply Below.drew | with_reducible apply below_drewN | with_reducible apply Below.alloc | with_reducible apply Below.setCell | (with_reducible refine Below.trans ?_ (Below.mono (by assumption) ?_)) | (simp; done) | (simp; omega) | omega | with_reducible apply le_size_alloc | with_reducible apply le_size_drewN | with_reducible apply le_size_drew | with_reducible apply le_size_setCell | refine Nat.le_trans ?_ (Below.size (by assumption))))
  have p0 : w1.cell? ⟨w.heap.size, 0, none⟩ = some (.slice Aa xs.length ca) := cell_keep hbl1 (by simp) (by simp)
  have p1 : w1.cell? ⟨w.heap.size, 1, none⟩ = some (.slice Ai ys.length ci) := cell_keep hbl1 (by simp) (by simp)
  have p2 : w1.cell? ⟨w.heap.size, 2, none⟩ = some (.slice Ar rs.length cr) := cell_keep hbl1 (by simp) (by simp)
  obtain ⟨b, off, x, hA, hbl, hx, hcx⟩ := (hm1.ext hb1).i.at_ (k := ys.length - 1) (by omega)
  obtain rfl : f = x := HF.out.symm.trans (lastF_at rfl hx)
  have t1 : (1 : Int) ≤ ys.length := by omega
  subst hA
  have M1 := Lib.hid (hm1.ext hb1)
  clear hx hm1
  go_wp2_with fail
  refine (RRemove_ok _ _ _ _ _ _ _ _ _ _ _ M1.out _ HCH.out rfl HWH.out).mono ?_
  rw [HAS.out, HBS.out, HRT.out]
  rintro e w3 ⟨D1, d1, D2, d2, D3, d3, rfl, hL, hb3⟩
  have s2 : w.heap.size + 2 ≤ w1.heap.size := by
    have := hbl1.size
    simp at this
    exact this
  have s3 : w1.heap.size ≤ w3.heap.size := hb3.size
  have s4 : w.heap.size + 1 < w3.heap.size := by omega
  have s5 : ¬ w.heap.size + 1 = w3.heap.size := by omega
  have hbl3 : Below (w.heap.size + 2) ((w.alloc (.cells #[.slice Aa xs.length ca, .slice (some ⟨b, off, none⟩) ys.length ci, .slice Ar rs.length cr] 25)).alloc (.cells #[.slice none 0 0, .slice none 0 0, .slice none 0 0] 25)) w3 := (by repeat' (first | with_reducible exact Below.refl _ _ | with_reducible assumption | with_reducible apply Below.drew | with_reducible apply below_drewN | with_reducible apply Below.alloc | with_reducible apply Below.setCell | (with_reducible refine Below.trans ?_ (Below.mono (by assumption) ?_)) | (simp; done) | (simp; omega) | omega | with_reducible apply le_size_alloc | with_reducible apply le_size_drewN | with_reducible apply le_size_drew | with_reducible apply le_size_setCell | refine Nat.le_trans ?_ (Below.size (by assumption))))
  have rs1 := RS.start hL
  have hof : Own ((w3.alloc (.cells #[.slice D1 us.length d1, .slice D2 bs.length d2, .slice D3 rt.length d3] 25)).alloc (.cells #[.int .i64 f] 3)) w1.heap.size 3 (Value.int .i64) (.slice (some ⟨w3.heap.size + 1, 0, none⟩) [f].length 1) [f] :=
    Own.of_blk (cur := #[.int .i64 f]) (Blk.new_ (by simp) rfl) (by omega) (by simp) (by simp [maxLen]) (fun j x hx => by cases j <;> simp_all)
  have hsx : Sl ((w3.alloc (.cells #[.slice D1 us.length d1, .slice D2 bs.length d2, .slice D3 rt.length d3] 25)).alloc (.cells #[.int .i64 f] 3)) (Value.int .i64) D1 us := (rs1.own.a.sl_).ext (by repeat' (first | with_reducible exact Below.refl _ _ | with_reducible assumption | with_reducible apply Below.drew | with_reducible apply below_drewN | with_reducible apply Below.alloc | with_reducible apply Below.setCell | (with_reducible refine Below.trans ?_ (Below.mono (by assumption) ?_)) | (simp; done) | (simp; omega) | omega | with_reducible apply le_size_alloc | with_reducible apply le_size_drewN | with_reducible apply le_size_drew | with_reducible apply le_size_setCell | refine Nat.le_trans ?_ (Below.size (by assumption))))
  have RS1 := Lib.hid rs1; have HOF := Lib.hid hof; have HSX := Lib.hid hsx
  clear p0 p1 p2 hb1 hb3 hbl1 hL rs1 hof hsx hcx
  go_wp2_with (at_builtin; refine wpList_appS (mk := Value.int .i64) _ rfl (.tmp 38) (.tmp 40) _ rfl 3 i0 _ 8 Try.underlying22 hi0 hz0 hz1 hz2 rfl w1.heap.size (some ⟨w3.heap.size + 1, 0, none⟩) 1 [f] rfl HOF.out D1 d1 us rfl HSX.out (int_one us) (by simp; omega) (by simp; omega) (by simp; omega) ?_
               intro A5 c5 w5 ho5 hg5 hl5
               rw [HVS.out] at ho5
               rw [HVS.out]
               have hbl5 : Below (w3.heap.size + 1) (w3.alloc (.cells #[.slice D1 us.length d1, .slice D2 bs.length d2, .slice D3 rt.length d3] 25)) w5 := ((Below.refl _ _).alloc (by simp) _).grown hg5 (by simp) (fun k hk => by cases hk; exact Nat.le_refl _)
               have hg6 : (w3.alloc (.cells #[.slice D1 us.length d1, .slice D2 bs.length d2, .slice D3 rt.length d3] 25)).grownBy w5 (D1.map (·.block)) := ⟨hbl5.os, hbl5.tape, hbl5.output, hbl5.size, fun k hk _ => hbl5.block k (by simpa using hk)⟩
               have hl6 : A5.map (·.block) = D1.map (·.block) ∨ ∃ g, A5.map (·.block) = some g ∧ (w3.alloc (.cells #[.slice D1 us.length d1, .slice D2 bs.length d2, .slice D3 rt.length d3] 25)).heap.size ≤ g := by
                 rcases hl5 with h | ⟨g, h, hg⟩
                 · exact .inr ⟨w3.heap.size + 1, h, by simp⟩
                 · exact .inr ⟨g, h, by simp at hg ⊢; omega⟩
               have rs4 := RS1.out.act hg6 ho5 hl6
               have bk := RS1.out.blk.below_ hbl5 (by simp)
               have k0 := (bk.cell_ 0).trans (by simp : _ = some (.slice D1 us.length d1))
               have k1 := (bk.cell_ 1).trans (by simp : _ = some (.slice D2 bs.length d2))
               have k2 := (bk.cell_ 2).trans (by simp : _ = some (.slice D3 rt.length d3))
               have k3 := bk.frozen_ 0
               have b6 : Below (w.heap.size + 2) ((w.alloc (.cells #[.slice Aa xs.length ca, .slice (some ⟨b, off, none⟩) ys.length ci, .slice Ar rs.length cr] 25)).alloc (.cells #[.slice none 0 0, .slice none 0 0, .slice none 0 0] 25)) w5 := (hbl3.alloc (by omega) _).trans (hbl5.mono (by omega))
               have z5 : w3.heap.size < w5.heap.size := by have := hbl5.size; simp at this; omega
               have RS4 := Lib.hid rs4; have B6 := Lib.hid b6
               have q0 : w5.cell? ⟨w.heap.size + 1, 0, none⟩ = some (.slice none 0 0) := cell_keep b6 (by simp) (by simp)
               have q1 : w5.cell? ⟨w.heap.size + 1, 1, none⟩ = some (.slice none 0 0) := cell_keep b6 (by simp) (by simp)
               have q2 : w5.cell? ⟨w.heap.size + 1, 2, none⟩ = some (.slice none 0 0) := cell_keep b6 (by simp) (by simp)
               have q3 : w5.frozen? ⟨w.heap.size + 1, 0, none⟩ = false := frozen_keep b6 (by simp) (by simp)
               have q4 : w5.frozen? ⟨w.heap.size + 1, 1, none⟩ = false := frozen_keep b6 (by simp) (by simp)
               have q5 : w5.frozen? ⟨w.heap.size + 1, 2, none⟩ = false := frozen_keep b6 (by simp) (by simp)
               clear ho5 hg5 hl5 hbl5 hg6 hl6 rs4 bk b6)
  unfold LPost3
  refine bodyPost_ret (v := .tuple #[.agg #[.slice A5 vs.length c5, .slice D2 bs.length d2, .slice D3 rt.length d3], .int .i64 f, .int .i64 0]) (by simp [results, Try.results44, go_sem, q0, q1, q2]) rfl ?_
  have o := RS4.out.own
  have o' := (((o.far_ (g := w.heap.size + 1) 0 (.slice A5 vs.length c5) (by omega)).far_ (g := w.heap.size + 1) 1 (.slice D2 bs.length d2) (by omega)).far_ (g := w.heap.size + 1) 2 (.slice D3 rt.length d3) (by omega)).base_ (base' := w.heap.size) (by omega)
  refine ⟨A5, c5, D2, d2, D3, d3, rfl, o'.memV HCK.out, o'.new_, ?_⟩
  have hb6 : Below w.heap.size w w5 := ((Below.refl _ _).alloc (Nat.le_refl _) _ |>.alloc (by simp) _).trans (B6.out.mono (by omega))
  exact (by repeat' (first | with_reducible exact Below.refl _ _ | with_reducible assumption | with_reducible apply Below.drew | with_reducible apply below_drewN | with_reducible apply Below.alloc | with_reducible apply Below.setCell | (with_reducible refine Below.trans ?_ (Below.mono (by assumption) ?_)) | (simp; done) | (simp; omega) | omega | with_reducible apply le_size_alloc | with_reducible apply le_size_drewN | with_reducible apply le_size_drew | with_reducible apply le_size_setCell | refine Nat.le_trans ?_ (Below.size (by assumption))))
theorem RPromote_S (Aa Ai Ar : Option Addr) (ca ci cr : Nat) (xs ys : List Int) (rs : List Bool) (w : World) (hm : InMem w Aa Ai Ar xs ys rs) : Calls Try.prog 44 #[.agg #[.slice Aa xs.length ca, .slice Ai ys.length ci, .slice Ar rs.length cr]] w (LPost3 (proS xs ys rs) (proF xs ys rs) w) := by
  unfold proS proF
  by_cases h0 : lruChk xs ys rs ≠ 0
  · rw [if_pos h0, if_pos h0]
    exact RPromote_bad _ _ _ _ _ _ _ _ _ _ hm _ rfl h0
  · rw [if_neg h0, if_neg h0]
    have h0' : lruChk xs ys rs = 0 := by simpa using h0
    by_cases h1 : ys.length = 0
    · rw [if_pos h1, if_pos h1]
      exact RPromote_none _ _ _ _ _ _ _ _ _ _ hm h0' (by omega)
    · rw [if_neg h1, if_neg h1]
      exact RPromote_ok _ _ _ _ _ _ _ _ _ _ hm h0' (by omega)
end Go.Proofs.Ytiobbdfkimpfbaa
