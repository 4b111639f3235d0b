/- ScanParts: sweeps one after the other are one sweep, and frames that are left alone are in the lists behind it. Written by gen_lsparts.py. -/
import Derived.Test.YtiobbdfkimpfbaaLSKnown
import Derived.Test.YtiobbdfkimpfbaaMgF
import Derived.Test.YtiobbdfkimpfbaaScSw
import Derived.BigQuiet
namespace Go.Proofs.Ytiobbdfkimpfbaa
set_option linter.unusedSimpArgs false
set_option linter.unusedVariables false
open Go.RowKit Go.Maps
open Go.ChangeShapes Go.WideShapes Go.ChangeAt Go.Joins

/-- What is known of the frames that a sweep leaves alone. -/
structure SafeL (us vs xs ys ls : List Int) : Prop where
  sub : ∀ x ∈ ls, x ∈ us ++ vs
  whe : ∀ x ∈ ls, fWhere us vs x ≠ 0 ∧ fWhere xs ys x = fWhere us vs x
  inc : ∀ (j : Nat) (y x : Int), ls[j]? = some y → ls[j + 1]? = some x → y < x
theorem safe_list {us vs xs ys mo ls : List Int} (hn : (us ++ vs).Nodup) (hw : ∀ f, f ∈ us ++ vs → f ∉ mo → (f ∈ us ↔ f ∈ xs) ∧ (f ∈ vs ↔ f ∈ ys)) (hl : srt (kep mo (us ++ vs)) = ls) : SafeL us vs xs ys ls := by
  have hp : ls.Perm (kep mo (us ++ vs)) := by rw [← hl]; exact List.mergeSort_perm _ _
  have hm : ∀ x ∈ ls, x ∈ us ++ vs ∧ x ∉ mo := fun x hx => by
    have := hp.mem_iff.1 hx
    unfold kep at this
    have := List.mem_filter.1 this
    exact ⟨this.1, by simpa using this.2⟩
  have hs : ls.Pairwise (· ≤ ·) := by
    rw [← hl]
    have := List.pairwise_mergeSort (le := fun (x y : Int) => decide (x ≤ y)) (by intro a b c h1 h2; simp at *; omega) (by intro a b; simp; omega) (kep mo (us ++ vs))
    exact this.imp (by intro a b h; simpa using h)
  have hnd : ls.Nodup := hp.nodup_iff.2 (hn.filter _)
  refine ⟨fun x hx => (hm x hx).1, fun x hx => ?_, fun j y x hy hx => ?_⟩
  · obtain ⟨h1, h2⟩ := hm x hx
    obtain ⟨h3, h4⟩ := hw x h1 h2
    unfold fWhere
    by_cases hu : x ∈ us
    · rw [if_pos hu, if_pos (h3.1 hu)]; simp
    · have hv : x ∈ vs := (List.mem_append.1 h1).resolve_left hu
      rw [if_neg hu, if_pos hv, if_neg (fun h => hu (h3.2 h)), if_pos (h4.1 hv)]; simp
  · obtain ⟨hj, ey⟩ := List.getElem?_eq_some_iff.1 hy
    obtain ⟨hj1, ex⟩ := List.getElem?_eq_some_iff.1 hx
    have h1 := List.pairwise_iff_getElem.1 hs j (j + 1) hj hj1 (by omega)
    have h2 := List.pairwise_iff_getElem.1 hnd j (j + 1) hj hj1 (by omega)
    rw [ey, ex] at h1 h2
    omega

set_option maxHeartbeats 1000000 in
theorem OwnInts_any (A : Option Addr) (c : Nat) (xs : List Int) (w : World) (h : Sl w (.int .i64) A xs) (hn : xs.length ≤ 100000) :
    Calls Try.prog 35 #[.slice A xs.length c] w fun e w' => ∃ B d, e = .returned (.slice B xs.length d) ∧ Own w' w.heap.size 3 (.int .i64) (.slice B xs.length d) xs ∧ Below w.heap.size w w' := by
  obtain ⟨i0, hi0, hz0, hz1, hz2⟩ := info_parts intInfo
  have HN := Lib.hid h
  clear h
  have ho : Own (w.alloc (.cells #[] 3)) w.heap.size 3 (Value.int .i64) (.slice (some ⟨w.heap.size, 0, none⟩) ([] : List Int).length 0) [] := Own.of_blk (cur := #[]) (Blk.new_ rfl rfl) (Nat.le_refl _) (Nat.le_refl _) (by decide) (fun j x hx => by simp at hx)
  have HO := Lib.hid ho
  have HS := Lib.hid (HN.out.ext ((Below.refl _ _).alloc (Nat.le_refl _) (.cells #[] 3)))
  clear ho
  go_enter Try.func35, Try.ntmps35
  go_wp2_with (at_builtin; refine wpList_appS (mk := Value.int .i64) _ rfl (.tmp 3) (.tmp 4) _ rfl 3 i0 _ 8 Try.underlying22 hi0 hz0 hz1 hz2 rfl w.heap.size (some ⟨w.heap.size, 0, none⟩) 0 ([] : List Int) rfl HO.out A c xs rfl HS.out (int_one xs) (by simp; omega) (by simp; omega) (by simp) ?_; intro A5 c5 w5 ho5 hg5 hl5; have HO5 := Lib.hid ho5; have HG5 := Lib.hid hg5; clear ho5 hg5 hl5)
  go_ret
  exact ⟨A5, c5, by simp, by simpa using HO5.out, ((Below.refl _ _).alloc (Nat.le_refl _) _).grown HG5.out (by simp) (fun k hk => by cases hk; exact Nat.le_refl _)⟩

set_option maxRecDepth 100000 in
set_option maxHeartbeats 32000000 in
theorem scanParts_walk (A : Option Addr) (c : Nat) (nums : List Int) (tg n m : Int) (w : World) (hs : Sl w (.int .i64) A nums) (_hw : ∀ x ∈ nums, (Lit.int .i64 x).wf = true) (hl0 : nums.length ≤ maxLen) (_hw1 : (Lit.int .i64 tg).wf = true) (_hw2 : (Lit.int .i64 n).wf = true) (_hw3 : (Lit.int .i64 m).wf = true) :
    Calls Try.prog 9 #[.slice A nums.length c, .int .i64 tg, .int .i64 n, .int .i64 m] w fun e w' => e = .returned (.bool true) ∧ Below w.heap.size w w' := by
  obtain ⟨i0, hi0, hz0, hz1, hz2⟩ := info_parts intInfo
  have hl : nums.length ≤ 9223372036854775807 := by unfold maxLen at hl0; exact hl0
  have HS0 := Lib.hid hs
  have HB0 : Hid (Below w.heap.size w w) := Below.refl _ _
  clear hs
  go_enter Try.func9, Try.ntmps9
  go_wp2_with fail
  refine (scanKnown_walk _).mono ?_
  rintro e x1 ⟨rfl, hx1⟩
  have bw2 : Below w.heap.size w x1 := (by repeat' (first | with_reducible exact Below.refl _ _ | with_reducible assumption | with_reducible apply Below.drew | with_reducible apply below_drewN | with_reducible apply Below.alloc | with_reducible apply Below.setCell | (with_reducible refine Below.trans ?_ (Below.mono (by assumption) ?_)) | (simp; done) | (simp; omega) | omega | with_reducible apply le_size_alloc | with_reducible apply le_size_drewN | with_reducible apply le_size_drew | with_reducible apply le_size_setCell | with_reducible refine Nat.le_trans ?_ (Below.size (by assumption))))
  have HB_2 : Hid (Below w.heap.size w x1) := HB0.out.trans (bw2.mono HB0.out.size)
  have HS_2 : Hid (Sl x1 (.int .i64) A nums) := HS0.out.ext bw2
  clear bw2 hx1 HB0 HS0
  go_wp2_with fail
  refine (madeZ_any _ _ _ _ HS_2.out hl).mono ?_
  rintro e x3 ⟨A1, c1, A2, c2, A3, c3, xs, ys, rs, us0, rfl, o2, hmz, hx3⟩
  have bw4 : Below x1.heap.size x1 x3 := (by repeat' (first | with_reducible exact Below.refl _ _ | with_reducible assumption | with_reducible apply Below.drew | with_reducible apply below_drewN | with_reducible apply Below.alloc | with_reducible apply Below.setCell | (with_reducible refine Below.trans ?_ (Below.mono (by assumption) ?_)) | (simp; done) | (simp; omega) | omega | with_reducible apply le_size_alloc | with_reducible apply le_size_drewN | with_reducible apply le_size_drew | with_reducible apply le_size_setCell | with_reducible refine Nat.le_trans ?_ (Below.size (by assumption))))
  have HB_4 : Hid (Below w.heap.size w x3) := HB_2.out.trans (bw4.mono HB_2.out.size)
  have HS_4 : Hid (Sl x3 (.int .i64) A nums) := HS_2.out.ext bw4
  clear bw4 hx3 HB_2 HS_2
  clear HS_4
  have hck := hmz.chk
  have hsz := hmz.size
  have hrl := hmz.len
  have HML := Lib.hid (o2.memV hck)
  clear o2
  obtain ⟨t, ht⟩ : ∃ t, tg % 12 = t := ⟨_, rfl⟩
  obtain ⟨N, hN⟩ : ∃ N : Nat, n % 40 = N := ⟨(n % 40).toNat, by omega⟩
  obtain ⟨M, hM⟩ : ∃ M : Nat, m % 40 = M := ⟨(m % 40).toNat, by omega⟩
  have t0 : 0 ≤ t := by omega
  have t1 : t < 12 := by omega
  have hN1 : N < 40 := by omega
  have hM1 : M < 40 := by omega
  have htg : tgtB t = true := by unfold tgtB; simp; omega
  have hwNM : IntKind.i64.wrap ((N : Int) + M) = N + M := by rw [IntKind.wrap_i64]; omega
  have HT := Lib.hid ht
  have HN := Lib.hid hN
  have HM := Lib.hid hM
  clear ht hN hM
  obtain ⟨q1, q2, q3, q4⟩ := sw_add (T := t) M N xs ys rs
  have hca := sw_chk (T := t) N xs ys rs hck
  have hwh := sw_where (T := t) N xs ys rs hck
  have hv1 := sw_vic (T := t) N xs ys rs
  have hla := sw_len (T := t) N xs ys rs
  have hcb := sw_chk (T := t) M _ _ _ hca
  have hv2 := sw_vic (T := t) M (swS t N xs ys rs).xs (swS t N xs ys rs).ys (swS t N xs ys rs).rs
  obtain ⟨R1, hR1⟩ : ∃ R, swS t N xs ys rs = R := ⟨_, rfl⟩
  rw [hR1] at q1 q2 q3 q4 hca hwh hv1 hla hcb hv2
  obtain ⟨us, vs, ss, v1, mo⟩ := R1
  dsimp only at q1 q2 q3 q4 hca hwh hv1 hla hcb hv2
  obtain ⟨R2, hR2⟩ : ∃ R, swS t M us vs ss = R := ⟨_, rfl⟩
  rw [hR2] at q1 q2 q3 q4 hcb hv2
  obtain ⟨ps, qs, ws, v2, m2⟩ := R2
  dsimp only at q1 q2 q3 q4 hcb hv2
  obtain ⟨R3, hR3⟩ : ∃ R, swS t (N + M) xs ys rs = R := ⟨_, rfl⟩
  rw [hR3] at q1 q2 q3 q4
  obtain ⟨ps', qs', ws', v3, m3⟩ := R3
  dsimp only at q1 q2 q3 q4
  obtain rfl := q1
  obtain rfl := q2
  obtain rfl := q3
  obtain rfl := q4
  have HR1 := Lib.hid hR1
  have HR2 := Lib.hid hR2
  have HR3 := Lib.hid hR3
  have hlb := chk_len hcb
  have hva := valid_of_chk hca
  have hlu := hva.len
  have hvr := hva.range
  obtain ⟨ls, hls⟩ : ∃ l, srt (kep mo (us ++ vs)) = l := ⟨_, rfl⟩
  have hsafe := safe_list (xs := xs) (ys := ys) hva.nodup hwh hls
  have hlsl : ls.length ≤ us.length + vs.length := by rw [← hls, srt_len, ← List.length_append]; exact kep_len _ _
  have hlu2 : us.length + vs.length ≤ 20 := by omega
  have hchx : ∀ x ∈ ls, lruChd xs ys rs x = 0 ∧ lruChd us vs ss x = 0 := fun x hx => by
    have := hvr x (hsafe.sub x hx)
    exact ⟨chd_of hck this.1 (by omega), chd_of hca this.1 this.2⟩
  have HLS := Lib.hid hls
  have HSF := Lib.hid hsafe
  have HCH := Lib.hid hchx
  have HCK := Lib.hid hck
  have HCA := Lib.hid hca
  have HTG := Lib.hid htg
  have hv12 : (v1 ++ v2).length ≤ 80 := by rw [List.length_append]; omega
  obtain ⟨v12, hv12e⟩ : ∃ l, v1 ++ v2 = l := ⟨_, rfl⟩
  rw [hv12e] at hv12 HR3
  have HV12 := Lib.hid hv12e
  have hrl1 : rs.length ≤ 20 := by omega
  have hrl2 : 20 ≤ rs.length := by omega
  have hss1 : ss.length ≤ 20 := by omega
  have hss2 : 20 ≤ ss.length := by omega
  clear hR1 hR2 hR3 hls hsafe hchx hck hca hcb hmz hwh hva hvr htg hv12e hrl hla
  go_wp2_with fail
  obtain ⟨V5, hV5⟩ : ∃ V, x3.alloc (.cells #[.slice A1 xs.length c1, .slice A2 ys.length c2, .slice A3 rs.length c3] 25) = V := ⟨_, rfl⟩
  have hbV5 : Below x3.heap.size x3 V5 := by rw [← hV5]; exact (Below.refl _ _).alloc (Nat.le_refl _) _
  have hkV5 : Hid (Blk V5 x3.heap.size 25 #[.slice A1 xs.length c1, .slice A2 ys.length c2, .slice A3 rs.length c3]) := by show Blk _ _ _ _; rw [← hV5]; exact Blk.new_ rfl rfl
  (try rw [hV5])
  clear hV5
  have bw6 : Below x3.heap.size x3 V5 := (by repeat' (first | with_reducible exact Below.refl _ _ | with_reducible assumption | with_reducible apply Below.drew | with_reducible apply below_drewN | with_reducible apply Below.alloc | with_reducible apply Below.setCell | (with_reducible refine Below.trans ?_ (Below.mono (by assumption) ?_)) | (simp; done) | (simp; omega) | omega | with_reducible apply le_size_alloc | with_reducible apply le_size_drewN | with_reducible apply le_size_drew | with_reducible apply le_size_setCell | with_reducible refine Nat.le_trans ?_ (Below.size (by assumption))))
  have HB_6 : Hid (Below w.heap.size w V5) := HB_4.out.trans (bw6.mono HB_4.out.size)
  have ML_6 : Hid (InMem V5 A1 A2 A3 xs ys rs) := HML.out.ext bw6
  clear bw6 hbV5 HB_4 HML
  refine (Mod_any _ _ _ (by omega) (by omega)).mono ?_
  rw [HT.out]
  rintro e w' ⟨rfl, rfl⟩
  go_wp2_with fail
  refine (Mod_any _ _ _ (by omega) (by omega)).mono ?_
  rw [HN.out]
  rintro e w' ⟨rfl, rfl⟩
  go_wp2_with fail
  have kL0 : V5.cell? ⟨x3.heap.size, 0, none⟩ = some (.slice A1 xs.length c1) := (hkV5.out.cell_ 0).trans (by simp)
  have kL1 : V5.cell? ⟨x3.heap.size, 1, none⟩ = some (.slice A2 ys.length c2) := (hkV5.out.cell_ 1).trans (by simp)
  have kL2 : V5.cell? ⟨x3.heap.size, 2, none⟩ = some (.slice A3 rs.length c3) := (hkV5.out.cell_ 2).trans (by simp)
  refine (Mod_any _ _ _ (by omega) (by omega)).mono ?_
  rw [HM.out]
  rintro e w' ⟨rfl, rfl⟩
  go_wp2_with fail
  refine (Sweep_sw A1 A2 A3 c1 c2 c3 xs ys rs t N _ ML_6.out HCK.out HTG.out (by omega)).mono ?_
  rw [HR1.out]
  rintro e x7 ⟨B1, B2, B3, d1, d2, d3, X1, X1c, rfl, hmX1, hsX1, hx7⟩
  clear kL0 kL1 kL2
  have bw8 : Below V5.heap.size V5 x7 := (by repeat' (first | with_reducible exact Below.refl _ _ | with_reducible assumption | with_reducible apply Below.drew | with_reducible apply below_drewN | with_reducible apply Below.alloc | with_reducible apply Below.setCell | (with_reducible refine Below.trans ?_ (Below.mono (by assumption) ?_)) | (simp; done) | (simp; omega) | omega | with_reducible apply le_size_alloc | with_reducible apply le_size_drewN | with_reducible apply le_size_drew | with_reducible apply le_size_setCell | with_reducible refine Nat.le_trans ?_ (Below.size (by assumption))))
  have HB_8 : Hid (Below w.heap.size w x7) := HB_6.out.trans (bw8.mono HB_6.out.size)
  have ML_8 : Hid (InMem x7 A1 A2 A3 xs ys rs) := ML_6.out.ext bw8
  have L_8 : Hid (Blk x7 x3.heap.size 25 #[.slice A1 xs.length c1, .slice A2 ys.length c2, .slice A3 rs.length c3]) := hkV5.out.below_ bw8 hkV5.out.lt
  clear bw8 hx7 HB_6 ML_6 hkV5
  dsimp only at hmX1 hsX1 ⊢
  have MX1 := Lib.hid hmX1
  have SX1 := Lib.hid hsX1
  clear hmX1 hsX1
  go_wp2_with fail
  obtain ⟨V9, hV9⟩ : ∃ V, x7.alloc (.cells #[.slice B1 us.length d1, .slice B2 vs.length d2, .slice B3 ss.length d3] 25) = V := ⟨_, rfl⟩
  have hbV9 : Below x7.heap.size x7 V9 := by rw [← hV9]; exact (Below.refl _ _).alloc (Nat.le_refl _) _
  have hkV9 : Hid (Blk V9 x7.heap.size 25 #[.slice B1 us.length d1, .slice B2 vs.length d2, .slice B3 ss.length d3]) := by show Blk _ _ _ _; rw [← hV9]; exact Blk.new_ rfl rfl
  (try rw [hV9])
  clear hV9
  have bw10 : Below x7.heap.size x7 V9 := (by repeat' (first | with_reducible exact Below.refl _ _ | with_reducible assumption | with_reducible apply Below.drew | with_reducible apply below_drewN | with_reducible apply Below.alloc | with_reducible apply Below.setCell | (with_reducible refine Below.trans ?_ (Below.mono (by assumption) ?_)) | (simp; done) | (simp; omega) | omega | with_reducible apply le_size_alloc | with_reducible apply le_size_drewN | with_reducible apply le_size_drew | with_reducible apply le_size_setCell | with_reducible refine Nat.le_trans ?_ (Below.size (by assumption))))
  have HB_10 : Hid (Below w.heap.size w V9) := HB_8.out.trans (bw10.mono HB_8.out.size)
  have ML_10 : Hid (InMem V9 A1 A2 A3 xs ys rs) := ML_8.out.ext bw10
  have L_10 : Hid (Blk V9 x3.heap.size 25 #[.slice A1 xs.length c1, .slice A2 ys.length c2, .slice A3 rs.length c3]) := L_8.out.below_ bw10 L_8.out.lt
  have MA_10 : Hid (InMem V9 B1 B2 B3 us vs ss) := MX1.out.ext bw10
  have SA_10 : Hid (Sl V9 (.int .i64) X1 v1) := SX1.out.ext bw10
  clear bw10 hbV9 HB_8 ML_8 L_8 MX1 SX1
  refine (Sweep_sw B1 B2 B3 d1 d2 d3 us vs ss t M _ MA_10.out HCA.out HTG.out (by omega)).mono ?_
  rw [HR2.out]
  rintro e x11 ⟨C1, C2, C3, e1, e2, e3, X2, X2c, rfl, hmX2, hsX2, hx11⟩
  have bw12 : Below V9.heap.size V9 x11 := (by repeat' (first | with_reducible exact Below.refl _ _ | with_reducible assumption | with_reducible apply Below.drew | with_reducible apply below_drewN | with_reducible apply Below.alloc | with_reducible apply Below.setCell | (with_reducible refine Below.trans ?_ (Below.mono (by assumption) ?_)) | (simp; done) | (simp; omega) | omega | with_reducible apply le_size_alloc | with_reducible apply le_size_drewN | with_reducible apply le_size_drew | with_reducible apply le_size_setCell | with_reducible refine Nat.le_trans ?_ (Below.size (by assumption))))
  have HB_12 : Hid (Below w.heap.size w x11) := HB_10.out.trans (bw12.mono HB_10.out.size)
  have ML_12 : Hid (InMem x11 A1 A2 A3 xs ys rs) := ML_10.out.ext bw12
  have L_12 : Hid (Blk x11 x3.heap.size 25 #[.slice A1 xs.length c1, .slice A2 ys.length c2, .slice A3 rs.length c3]) := L_10.out.below_ bw12 L_10.out.lt
  have MA_12 : Hid (InMem x11 B1 B2 B3 us vs ss) := MA_10.out.ext bw12
  have SA_12 : Hid (Sl x11 (.int .i64) X1 v1) := SA_10.out.ext bw12
  have A_12 : Hid (Blk x11 x7.heap.size 25 #[.slice B1 us.length d1, .slice B2 vs.length d2, .slice B3 ss.length d3]) := hkV9.out.below_ bw12 hkV9.out.lt
  clear bw12 hx11 HB_10 ML_10 L_10 MA_10 SA_10 hkV9
  dsimp only at hmX2 hsX2 ⊢
  have MX2 := Lib.hid hmX2
  have SX2 := Lib.hid hsX2
  clear hmX2 hsX2
  have kL0 : x11.cell? ⟨x3.heap.size, 0, none⟩ = some (.slice A1 xs.length c1) := (L_12.out.cell_ 0).trans (by simp)
  have kL1 : x11.cell? ⟨x3.heap.size, 1, none⟩ = some (.slice A2 ys.length c2) := (L_12.out.cell_ 1).trans (by simp)
  have kL2 : x11.cell? ⟨x3.heap.size, 2, none⟩ = some (.slice A3 rs.length c3) := (L_12.out.cell_ 2).trans (by simp)
  have zL := L_12.out.lt
  go_wp2_with fail
  clear kL0 kL1 kL2 zL
  obtain ⟨V13, hV13⟩ : ∃ V, x11.alloc (.cells #[.slice C1 ps.length e1, .slice C2 qs.length e2, .slice C3 ws.length e3] 25) = V := ⟨_, rfl⟩
  have hbV13 : Below x11.heap.size x11 V13 := by rw [← hV13]; exact (Below.refl _ _).alloc (Nat.le_refl _) _
  have hkV13 : Hid (Blk V13 x11.heap.size 25 #[.slice C1 ps.length e1, .slice C2 qs.length e2, .slice C3 ws.length e3]) := by show Blk _ _ _ _; rw [← hV13]; exact Blk.new_ rfl rfl
  (try rw [hV13])
  clear hV13
  have bw14 : Below x11.heap.size x11 V13 := (by repeat' (first | with_reducible exact Below.refl _ _ | with_reducible assumption | with_reducible apply Below.drew | with_reducible apply below_drewN | with_reducible apply Below.alloc | with_reducible apply Below.setCell | (with_reducible refine Below.trans ?_ (Below.mono (by assumption) ?_)) | (simp; done) | (simp; omega) | omega | with_reducible apply le_size_alloc | with_reducible apply le_size_drewN | with_reducible apply le_size_drew | with_reducible apply le_size_setCell | with_reducible refine Nat.le_trans ?_ (Below.size (by assumption))))
  have HB_14 : Hid (Below w.heap.size w V13) := HB_12.out.trans (bw14.mono HB_12.out.size)
  have ML_14 : Hid (InMem V13 A1 A2 A3 xs ys rs) := ML_12.out.ext bw14
  have L_14 : Hid (Blk V13 x3.heap.size 25 #[.slice A1 xs.length c1, .slice A2 ys.length c2, .slice A3 rs.length c3]) := L_12.out.below_ bw14 L_12.out.lt
  have MA_14 : Hid (InMem V13 B1 B2 B3 us vs ss) := MA_12.out.ext bw14
  have SA_14 : Hid (Sl V13 (.int .i64) X1 v1) := SA_12.out.ext bw14
  have A_14 : Hid (Blk V13 x7.heap.size 25 #[.slice B1 us.length d1, .slice B2 vs.length d2, .slice B3 ss.length d3]) := A_12.out.below_ bw14 A_12.out.lt
  have MB_14 : Hid (InMem V13 C1 C2 C3 ps qs ws) := MX2.out.ext bw14
  have SB_14 : Hid (Sl V13 (.int .i64) X2 v2) := SX2.out.ext bw14
  clear bw14 hbV13 HB_12 ML_12 L_12 MA_12 SA_12 A_12 MX2 SX2
  have hsw := Sweep_sw A1 A2 A3 c1 c2 c3 xs ys rs t (N + M) V13 ML_14.out HCK.out HTG.out (by omega)
  rw [Int.natCast_add] at hsw
  refine (hsw).mono ?_
  rw [HR3.out]
  rintro e x15 ⟨D1, D2, D3, g1, g2, g3, X3, X3c, rfl, hmX3, hsX3, hx15⟩
  have bw16 : Below V13.heap.size V13 x15 := (by repeat' (first | with_reducible exact Below.refl _ _ | with_reducible assumption | with_reducible apply Below.drew | with_reducible apply below_drewN | with_reducible apply Below.alloc | with_reducible apply Below.setCell | (with_reducible refine Below.trans ?_ (Below.mono (by assumption) ?_)) | (simp; done) | (simp; omega) | omega | with_reducible apply le_size_alloc | with_reducible apply le_size_drewN | with_reducible apply le_size_drew | with_reducible apply le_size_setCell | with_reducible refine Nat.le_trans ?_ (Below.size (by assumption))))
  have HB_16 : Hid (Below w.heap.size w x15) := HB_14.out.trans (bw16.mono HB_14.out.size)
  have ML_16 : Hid (InMem x15 A1 A2 A3 xs ys rs) := ML_14.out.ext bw16
  have L_16 : Hid (Blk x15 x3.heap.size 25 #[.slice A1 xs.length c1, .slice A2 ys.length c2, .slice A3 rs.length c3]) := L_14.out.below_ bw16 L_14.out.lt
  have MA_16 : Hid (InMem x15 B1 B2 B3 us vs ss) := MA_14.out.ext bw16
  have SA_16 : Hid (Sl x15 (.int .i64) X1 v1) := SA_14.out.ext bw16
  have A_16 : Hid (Blk x15 x7.heap.size 25 #[.slice B1 us.length d1, .slice B2 vs.length d2, .slice B3 ss.length d3]) := A_14.out.below_ bw16 A_14.out.lt
  have MB_16 : Hid (InMem x15 C1 C2 C3 ps qs ws) := MB_14.out.ext bw16
  have SB_16 : Hid (Sl x15 (.int .i64) X2 v2) := SB_14.out.ext bw16
  have B_16 : Hid (Blk x15 x11.heap.size 25 #[.slice C1 ps.length e1, .slice C2 qs.length e2, .slice C3 ws.length e3]) := hkV13.out.below_ bw16 hkV13.out.lt
  clear bw16 hx15 HB_14 ML_14 L_14 MA_14 SA_14 A_14 MB_14 SB_14 hkV13
  clear hsw
  dsimp only at hmX3 hsX3 ⊢
  have MX3 := Lib.hid hmX3
  have SX3 := Lib.hid hsX3
  clear hmX3 hsX3
  have kL0 : x15.cell? ⟨x3.heap.size, 0, none⟩ = some (.slice A1 xs.length c1) := (L_16.out.cell_ 0).trans (by simp)
  have kL1 : x15.cell? ⟨x3.heap.size, 1, none⟩ = some (.slice A2 ys.length c2) := (L_16.out.cell_ 1).trans (by simp)
  have kL2 : x15.cell? ⟨x3.heap.size, 2, none⟩ = some (.slice A3 rs.length c3) := (L_16.out.cell_ 2).trans (by simp)
  have zL := L_16.out.lt
  go_wp2_with fail
  clear kL0 kL1 kL2 zL
  obtain ⟨V17, hV17⟩ : ∃ V, x15.alloc (.cells #[.slice D1 ps.length g1, .slice D2 qs.length g2, .slice D3 ws.length g3] 25) = V := ⟨_, rfl⟩
  have hbV17 : Below x15.heap.size x15 V17 := by rw [← hV17]; exact (Below.refl _ _).alloc (Nat.le_refl _) _
  have hkV17 : Hid (Blk V17 x15.heap.size 25 #[.slice D1 ps.length g1, .slice D2 qs.length g2, .slice D3 ws.length g3]) := by show Blk _ _ _ _; rw [← hV17]; exact Blk.new_ rfl rfl
  (try rw [hV17])
  clear hV17
  have bw18 : Below x15.heap.size x15 V17 := (by repeat' (first | with_reducible exact Below.refl _ _ | with_reducible assumption | with_reducible apply Below.drew | with_reducible apply below_drewN | with_reducible apply Below.alloc | with_reducible apply Below.setCell | (with_reducible refine Below.trans ?_ (Below.mono (by assumption) ?_)) | (simp; done) | (simp; omega) | omega | with_reducible apply le_size_alloc | with_reducible apply le_size_drewN | with_reducible apply le_size_drew | with_reducible apply le_size_setCell | with_reducible refine Nat.le_trans ?_ (Below.size (by assumption))))
  have HB_18 : Hid (Below w.heap.size w V17) := HB_16.out.trans (bw18.mono HB_16.out.size)
  have ML_18 : Hid (InMem V17 A1 A2 A3 xs ys rs) := ML_16.out.ext bw18
  have L_18 : Hid (Blk V17 x3.heap.size 25 #[.slice A1 xs.length c1, .slice A2 ys.length c2, .slice A3 rs.length c3]) := L_16.out.below_ bw18 L_16.out.lt
  have MA_18 : Hid (InMem V17 B1 B2 B3 us vs ss) := MA_16.out.ext bw18
  have SA_18 : Hid (Sl V17 (.int .i64) X1 v1) := SA_16.out.ext bw18
  have A_18 : Hid (Blk V17 x7.heap.size 25 #[.slice B1 us.length d1, .slice B2 vs.length d2, .slice B3 ss.length d3]) := A_16.out.below_ bw18 A_16.out.lt
  have MB_18 : Hid (InMem V17 C1 C2 C3 ps qs ws) := MB_16.out.ext bw18
  have SB_18 : Hid (Sl V17 (.int .i64) X2 v2) := SB_16.out.ext bw18
  have B_18 : Hid (Blk V17 x11.heap.size 25 #[.slice C1 ps.length e1, .slice C2 qs.length e2, .slice C3 ws.length e3]) := B_16.out.below_ bw18 B_16.out.lt
  have MC_18 : Hid (InMem V17 D1 D2 D3 ps qs ws) := MX3.out.ext bw18
  have SC_18 : Hid (Sl V17 (.int .i64) X3 v12) := SX3.out.ext bw18
  clear bw18 hbV17 HB_16 ML_16 L_16 MA_16 SA_16 A_16 MB_16 SB_16 B_16 MX3 SX3
  refine (Safe_sw A1 A2 A3 c1 c2 c3 xs ys rs t N _ ML_18.out HCK.out HTG.out (by omega)).mono ?_
  rw [HR1.out]
  dsimp only
  rw [HLS.out]
  rintro e x19 ⟨X4, X4c, rfl, hsX4, hx19⟩
  have bw20 : Below V17.heap.size V17 x19 := (by repeat' (first | with_reducible exact Below.refl _ _ | with_reducible assumption | with_reducible apply Below.drew | with_reducible apply below_drewN | with_reducible apply Below.alloc | with_reducible apply Below.setCell | (with_reducible refine Below.trans ?_ (Below.mono (by assumption) ?_)) | (simp; done) | (simp; omega) | omega | with_reducible apply le_size_alloc | with_reducible apply le_size_drewN | with_reducible apply le_size_drew | with_reducible apply le_size_setCell | with_reducible refine Nat.le_trans ?_ (Below.size (by assumption))))
  have HB_20 : Hid (Below w.heap.size w x19) := HB_18.out.trans (bw20.mono HB_18.out.size)
  have ML_20 : Hid (InMem x19 A1 A2 A3 xs ys rs) := ML_18.out.ext bw20
  have L_20 : Hid (Blk x19 x3.heap.size 25 #[.slice A1 xs.length c1, .slice A2 ys.length c2, .slice A3 rs.length c3]) := L_18.out.below_ bw20 L_18.out.lt
  have MA_20 : Hid (InMem x19 B1 B2 B3 us vs ss) := MA_18.out.ext bw20
  have SA_20 : Hid (Sl x19 (.int .i64) X1 v1) := SA_18.out.ext bw20
  have A_20 : Hid (Blk x19 x7.heap.size 25 #[.slice B1 us.length d1, .slice B2 vs.length d2, .slice B3 ss.length d3]) := A_18.out.below_ bw20 A_18.out.lt
  have MB_20 : Hid (InMem x19 C1 C2 C3 ps qs ws) := MB_18.out.ext bw20
  have SB_20 : Hid (Sl x19 (.int .i64) X2 v2) := SB_18.out.ext bw20
  have B_20 : Hid (Blk x19 x11.heap.size 25 #[.slice C1 ps.length e1, .slice C2 qs.length e2, .slice C3 ws.length e3]) := B_18.out.below_ bw20 B_18.out.lt
  have MC_20 : Hid (InMem x19 D1 D2 D3 ps qs ws) := MC_18.out.ext bw20
  have SC_20 : Hid (Sl x19 (.int .i64) X3 v12) := SC_18.out.ext bw20
  have C_20 : Hid (Blk x19 x15.heap.size 25 #[.slice D1 ps.length g1, .slice D2 qs.length g2, .slice D3 ws.length g3]) := hkV17.out.below_ bw20 hkV17.out.lt
  clear bw20 hx19 HB_18 ML_18 L_18 MA_18 SA_18 A_18 MB_18 SB_18 B_18 MC_18 SC_18 hkV17
  dsimp only at hsX4 ⊢
  have SX4 := Lib.hid hsX4
  clear hsX4
  have kB0 : x19.cell? ⟨x11.heap.size, 0, none⟩ = some (.slice C1 ps.length e1) := (B_20.out.cell_ 0).trans (by simp)
  have kB1 : x19.cell? ⟨x11.heap.size, 1, none⟩ = some (.slice C2 qs.length e2) := (B_20.out.cell_ 1).trans (by simp)
  have kB2 : x19.cell? ⟨x11.heap.size, 2, none⟩ = some (.slice C3 ws.length e3) := (B_20.out.cell_ 2).trans (by simp)
  have kC0 : x19.cell? ⟨x15.heap.size, 0, none⟩ = some (.slice D1 ps.length g1) := (C_20.out.cell_ 0).trans (by simp)
  have kC1 : x19.cell? ⟨x15.heap.size, 1, none⟩ = some (.slice D2 qs.length g2) := (C_20.out.cell_ 1).trans (by simp)
  have kC2 : x19.cell? ⟨x15.heap.size, 2, none⟩ = some (.slice D3 ws.length g3) := (C_20.out.cell_ 2).trans (by simp)
  go_wp2_with fail
  refine (same_lists C1 C2 C3 D1 D2 D3 e1 e2 e3 g1 g2 g3 ps qs ws _ MB_20.out MC_20.out (by omega) (by omega) (by omega)).mono ?_
  rintro e x21 ⟨rfl, hx21⟩
  clear kB0 kB1 kB2 kC0 kC1 kC2
  have bw22 : Below x19.heap.size x19 x21 := (by repeat' (first | with_reducible exact Below.refl _ _ | with_reducible assumption | with_reducible apply Below.drew | with_reducible apply below_drewN | with_reducible apply Below.alloc | with_reducible apply Below.setCell | (with_reducible refine Below.trans ?_ (Below.mono (by assumption) ?_)) | (simp; done) | (simp; omega) | omega | with_reducible apply le_size_alloc | with_reducible apply le_size_drewN | with_reducible apply le_size_drew | with_reducible apply le_size_setCell | with_reducible refine Nat.le_trans ?_ (Below.size (by assumption))))
  have HB_22 : Hid (Below w.heap.size w x21) := HB_20.out.trans (bw22.mono HB_20.out.size)
  have ML_22 : Hid (InMem x21 A1 A2 A3 xs ys rs) := ML_20.out.ext bw22
  have L_22 : Hid (Blk x21 x3.heap.size 25 #[.slice A1 xs.length c1, .slice A2 ys.length c2, .slice A3 rs.length c3]) := L_20.out.below_ bw22 L_20.out.lt
  have MA_22 : Hid (InMem x21 B1 B2 B3 us vs ss) := MA_20.out.ext bw22
  have SA_22 : Hid (Sl x21 (.int .i64) X1 v1) := SA_20.out.ext bw22
  have A_22 : Hid (Blk x21 x7.heap.size 25 #[.slice B1 us.length d1, .slice B2 vs.length d2, .slice B3 ss.length d3]) := A_20.out.below_ bw22 A_20.out.lt
  have MB_22 : Hid (InMem x21 C1 C2 C3 ps qs ws) := MB_20.out.ext bw22
  have SB_22 : Hid (Sl x21 (.int .i64) X2 v2) := SB_20.out.ext bw22
  have B_22 : Hid (Blk x21 x11.heap.size 25 #[.slice C1 ps.length e1, .slice C2 qs.length e2, .slice C3 ws.length e3]) := B_20.out.below_ bw22 B_20.out.lt
  have MC_22 : Hid (InMem x21 D1 D2 D3 ps qs ws) := MC_20.out.ext bw22
  have SC_22 : Hid (Sl x21 (.int .i64) X3 v12) := SC_20.out.ext bw22
  have C_22 : Hid (Blk x21 x15.heap.size 25 #[.slice D1 ps.length g1, .slice D2 qs.length g2, .slice D3 ws.length g3]) := C_20.out.below_ bw22 C_20.out.lt
  have SS_22 : Hid (Sl x21 (.int .i64) X4 ls) := SX4.out.ext bw22
  clear bw22 hx21 HB_20 ML_20 L_20 MA_20 SA_20 A_20 MB_20 SB_20 B_20 MC_20 SC_20 C_20 SX4
  clear MB_22
  clear MC_22
  go_wp2_with fail
  refine (OwnInts_any X1 X1c v1 _ SA_22.out (by omega)).mono ?_
  rintro e x5 ⟨X5, X5c, rfl, ho5, hx5⟩
  have HO5 := Lib.hid ho5
  have HSB5 := Lib.hid (SB_22.out.ext hx5)
  have HX5 := Lib.hid hx5
  have zx5 := hx5.size
  clear ho5 hx5
  go_wp2_with (at_builtin; refine wpList_appG (mk := Value.int .i64) _ (by rfl) (.tmp 91) (.tmp 92) _ rfl 3 i0 _ 8 Try.underlying22 hi0 hz0 hz1 hz2 rfl x21.heap.size X5 X5c v1 rfl HO5.out X2 X2c v2 rfl HSB5.out (int_one v2) (by omega) (by omega) (by omega) ?_; intro X6 X6c w6 ho6 hg6 hl6; rw [HV12.out] at ho6; rw [HV12.out]; have HX6 : Hid (Below x21.heap.size x21 w6) := HX5.out.grown hg6 (by omega) (fun k hk => (HO5.out.block k hk).1); have S6 := Lib.hid (own_sl ho6); clear ho6 hg6 hl6 HO5 HSB5 HX5 zx5)
  have hx6 := HX6.out
  have bw23 : Below x21.heap.size x21 w6 := (by repeat' (first | with_reducible exact Below.refl _ _ | with_reducible assumption | with_reducible apply Below.drew | with_reducible apply below_drewN | with_reducible apply Below.alloc | with_reducible apply Below.setCell | (with_reducible refine Below.trans ?_ (Below.mono (by assumption) ?_)) | (simp; done) | (simp; omega) | omega | with_reducible apply le_size_alloc | with_reducible apply le_size_drewN | with_reducible apply le_size_drew | with_reducible apply le_size_setCell | with_reducible refine Nat.le_trans ?_ (Below.size (by assumption))))
  have HB_23 : Hid (Below w.heap.size w w6) := HB_22.out.trans (bw23.mono HB_22.out.size)
  have ML_23 : Hid (InMem w6 A1 A2 A3 xs ys rs) := ML_22.out.ext bw23
  have L_23 : Hid (Blk w6 x3.heap.size 25 #[.slice A1 xs.length c1, .slice A2 ys.length c2, .slice A3 rs.length c3]) := L_22.out.below_ bw23 L_22.out.lt
  have MA_23 : Hid (InMem w6 B1 B2 B3 us vs ss) := MA_22.out.ext bw23
  have SA_23 : Hid (Sl w6 (.int .i64) X1 v1) := SA_22.out.ext bw23
  have A_23 : Hid (Blk w6 x7.heap.size 25 #[.slice B1 us.length d1, .slice B2 vs.length d2, .slice B3 ss.length d3]) := A_22.out.below_ bw23 A_22.out.lt
  have SB_23 : Hid (Sl w6 (.int .i64) X2 v2) := SB_22.out.ext bw23
  have B_23 : Hid (Blk w6 x11.heap.size 25 #[.slice C1 ps.length e1, .slice C2 qs.length e2, .slice C3 ws.length e3]) := B_22.out.below_ bw23 B_22.out.lt
  have SC_23 : Hid (Sl w6 (.int .i64) X3 v12) := SC_22.out.ext bw23
  have C_23 : Hid (Blk w6 x15.heap.size 25 #[.slice D1 ps.length g1, .slice D2 qs.length g2, .slice D3 ws.length g3]) := C_22.out.below_ bw23 C_22.out.lt
  have SS_23 : Hid (Sl w6 (.int .i64) X4 ls) := SS_22.out.ext bw23
  clear bw23 hx6 HB_22 ML_22 L_22 MA_22 SA_22 A_22 SB_22 B_22 SC_22 C_22 SS_22
  clear HX6
  refine (same_lit X6 X3 X6c X3c _ v12 _ rfl S6.out SC_23.out (by omega)).mono ?_
  rintro e x24 ⟨rfl, hx24⟩
  have bw25 : Below w6.heap.size w6 x24 := (by repeat' (first | with_reducible exact Below.refl _ _ | with_reducible assumption | with_reducible apply Below.drew | with_reducible apply below_drewN | with_reducible apply Below.alloc | with_reducible apply Below.setCell | (with_reducible refine Below.trans ?_ (Below.mono (by assumption) ?_)) | (simp; done) | (simp; omega) | omega | with_reducible apply le_size_alloc | with_reducible apply le_size_drewN | with_reducible apply le_size_drew | with_reducible apply le_size_setCell | with_reducible refine Nat.le_trans ?_ (Below.size (by assumption))))
  have HB_25 : Hid (Below w.heap.size w x24) := HB_23.out.trans (bw25.mono HB_23.out.size)
  have ML_25 : Hid (InMem x24 A1 A2 A3 xs ys rs) := ML_23.out.ext bw25
  have L_25 : Hid (Blk x24 x3.heap.size 25 #[.slice A1 xs.length c1, .slice A2 ys.length c2, .slice A3 rs.length c3]) := L_23.out.below_ bw25 L_23.out.lt
  have MA_25 : Hid (InMem x24 B1 B2 B3 us vs ss) := MA_23.out.ext bw25
  have SA_25 : Hid (Sl x24 (.int .i64) X1 v1) := SA_23.out.ext bw25
  have A_25 : Hid (Blk x24 x7.heap.size 25 #[.slice B1 us.length d1, .slice B2 vs.length d2, .slice B3 ss.length d3]) := A_23.out.below_ bw25 A_23.out.lt
  have SB_25 : Hid (Sl x24 (.int .i64) X2 v2) := SB_23.out.ext bw25
  have B_25 : Hid (Blk x24 x11.heap.size 25 #[.slice C1 ps.length e1, .slice C2 qs.length e2, .slice C3 ws.length e3]) := B_23.out.below_ bw25 B_23.out.lt
  have SC_25 : Hid (Sl x24 (.int .i64) X3 v12) := SC_23.out.ext bw25
  have C_25 : Hid (Blk x24 x15.heap.size 25 #[.slice D1 ps.length g1, .slice D2 qs.length g2, .slice D3 ws.length g3]) := C_23.out.below_ bw25 C_23.out.lt
  have SS_25 : Hid (Sl x24 (.int .i64) X4 ls) := SS_23.out.ext bw25
  have S6_25 : Hid (Sl x24 (.int .i64) X6 v12) := S6.out.ext bw25
  clear bw25 hx24 HB_23 ML_23 L_23 MA_23 SA_23 A_23 SB_23 B_23 SC_23 C_23 SS_23 S6
  clear S6_25
  clear SC_25
  clear SA_25
  clear SB_25
  go_wp2_with fail
  go_loopw [22] (fun i wr => ∃ k : Nat, k ≤ ls.length ∧ i = .int .i64 k ∧ Below x24.heap.size x24 wr) (fun i _ => ls.length - (intOf i).toNat)
  case atStart => exact ⟨0, by omega, rfl, Below.refl _ _⟩
  case round =>
    obtain ⟨k, hk, rfl, hb⟩ := hrel
    have HBK := Lib.hid hb
    have bw26 : Below x24.heap.size x24 wr := (by repeat' (first | with_reducible exact Below.refl _ _ | with_reducible assumption | with_reducible apply Below.drew | with_reducible apply below_drewN | with_reducible apply Below.alloc | with_reducible apply Below.setCell | (with_reducible refine Below.trans ?_ (Below.mono (by assumption) ?_)) | (simp; done) | (simp; omega) | omega | with_reducible apply le_size_alloc | with_reducible apply le_size_drewN | with_reducible apply le_size_drew | with_reducible apply le_size_setCell | with_reducible refine Nat.le_trans ?_ (Below.size (by assumption))))
    have HB_26 : Hid (Below w.heap.size w wr) := HB_25.out.trans (bw26.mono HB_25.out.size)
    have ML_26 : Hid (InMem wr A1 A2 A3 xs ys rs) := ML_25.out.ext bw26
    have L_26 : Hid (Blk wr x3.heap.size 25 #[.slice A1 xs.length c1, .slice A2 ys.length c2, .slice A3 rs.length c3]) := L_25.out.below_ bw26 L_25.out.lt
    have MA_26 : Hid (InMem wr B1 B2 B3 us vs ss) := MA_25.out.ext bw26
    have A_26 : Hid (Blk wr x7.heap.size 25 #[.slice B1 us.length d1, .slice B2 vs.length d2, .slice B3 ss.length d3]) := A_25.out.below_ bw26 A_25.out.lt
    have B_26 : Hid (Blk wr x11.heap.size 25 #[.slice C1 ps.length e1, .slice C2 qs.length e2, .slice C3 ws.length e3]) := B_25.out.below_ bw26 B_25.out.lt
    have C_26 : Hid (Blk wr x15.heap.size 25 #[.slice D1 ps.length g1, .slice D2 qs.length g2, .slice D3 ws.length g3]) := C_25.out.below_ bw26 C_25.out.lt
    have SS_26 : Hid (Sl wr (.int .i64) X4 ls) := SS_25.out.ext bw26
    clear bw26 hb HB_25 ML_25 L_25 MA_25 A_25 B_25 C_25 SS_25
    by_cases hlt : k < ls.length
    · obtain ⟨b, off, x, hXe, hbl, hx, hc⟩ := SS_26.out.at_ hlt
      have hxm := List.mem_of_getElem? hx
      obtain ⟨hcx, hca⟩ := HCH.out x hxm
      obtain ⟨hw0, hw1⟩ := HSF.out.whe x hxm
      have HC1 := Lib.hid hcx
      have HC2 := Lib.hid hca
      obtain ⟨wv, hwv⟩ : ∃ v, fWhere us vs x = v := ⟨_, rfl⟩
      rw [hwv] at hw0 hw1
      have HW1 := Lib.hid hwv
      have HW2 := Lib.hid hw1
      have HXK := Lib.hid hx
      have i1 : (k : Int) < ls.length := by omega
      have hwk : IntKind.i64.wrap (k : Int) = k := by rw [IntKind.wrap_i64]; omega
      have hnw : (wv == 0) = false := by simpa using hw0
      have HCX := Lib.hid hc
      have HBL := Lib.hid hbl
      clear hcx hca hw0 hw1 hwv hx hxm hc hbl
      have HXE := Lib.hid hXe
      obtain rfl := hXe
      go_wp2_with fail
      refine wp_region_chain [.is ?fr13n0, .is ?fr13n1, .is ?fr13n2, .is ?fr13n3, .is ?fr13n4, .is (.tuple #[.int .i64 wv, .int .i64 0]), .is ?fr13n6, .is ?fr13n7, .is ?fr13n8, .is ?fr13n9, .is ?fr13n10] (by kernel_rfl) (by kernel_rfl) (by kernel_rfl) (lasts_is (lasts_is (lasts_is (lasts_is (lasts_is (lasts_is (lasts_is (lasts_is (lasts_is (lasts_is (lasts_is lasts_nil))))))))))) (fun W0 hb0 hz0 => ?_)
      rotate_left 10
      have bw27 : Below wr.heap.size wr W0 := (by repeat' (first | with_reducible exact Below.refl _ _ | with_reducible assumption | with_reducible apply Below.drew | with_reducible apply below_drewN | with_reducible apply Below.alloc | with_reducible apply Below.setCell | (with_reducible refine Below.trans ?_ (Below.mono (by assumption) ?_)) | (simp; done) | (simp; omega) | omega | with_reducible apply le_size_alloc | with_reducible apply le_size_drewN | with_reducible apply le_size_drew | with_reducible apply le_size_setCell | with_reducible refine Nat.le_trans ?_ (Below.size (by assumption))))
      have HB_27 : Hid (Below w.heap.size w W0) := HB_26.out.trans (bw27.mono HB_26.out.size)
      have ML_27 : Hid (InMem W0 A1 A2 A3 xs ys rs) := ML_26.out.ext bw27
      have L_27 : Hid (Blk W0 x3.heap.size 25 #[.slice A1 xs.length c1, .slice A2 ys.length c2, .slice A3 rs.length c3]) := L_26.out.below_ bw27 L_26.out.lt
      have MA_27 : Hid (InMem W0 B1 B2 B3 us vs ss) := MA_26.out.ext bw27
      have A_27 : Hid (Blk W0 x7.heap.size 25 #[.slice B1 us.length d1, .slice B2 vs.length d2, .slice B3 ss.length d3]) := A_26.out.below_ bw27 A_26.out.lt
      have B_27 : Hid (Blk W0 x11.heap.size 25 #[.slice C1 ps.length e1, .slice C2 qs.length e2, .slice C3 ws.length e3]) := B_26.out.below_ bw27 B_26.out.lt
      have C_27 : Hid (Blk W0 x15.heap.size 25 #[.slice D1 ps.length g1, .slice D2 qs.length g2, .slice D3 ws.length g3]) := C_26.out.below_ bw27 C_26.out.lt
      have SS_27 : Hid (Sl W0 (.int .i64) (some ⟨b, off, none⟩) ls) := SS_26.out.ext bw27
      have qA0 : W0.cell? ⟨x7.heap.size, 0, none⟩ = some (.slice B1 us.length d1) := (A_27.out.cell_ 0).trans (by simp)
      have qA1 : W0.cell? ⟨x7.heap.size, 1, none⟩ = some (.slice B2 vs.length d2) := (A_27.out.cell_ 1).trans (by simp)
      have qA2 : W0.cell? ⟨x7.heap.size, 2, none⟩ = some (.slice B3 ss.length d3) := (A_27.out.cell_ 2).trans (by simp)
      have zA : x7.heap.size < W0.heap.size := A_27.out.lt
      have rx0 : W0.cell? ⟨b, off + k, none⟩ = some (.int .i64 x) := cell_keep hb0 HCX.out HBL.out
      have zx0 : b < W0.heap.size := Nat.lt_of_lt_of_le HBL.out hb0.size
      have HB0K := Lib.hid (HBK.out.trans (hb0.mono HBK.out.size))
      refine chain_is (step_take (by rfl) ?yr13n0) ?rr13n0
      case yr13n0 =>
        intro w hbw hd
        have r0 : w.cell? ⟨x7.heap.size, 0, none⟩ = some (.slice B1 us.length d1) := cell_keep hbw qA0 zA
        have r1 : w.cell? ⟨x7.heap.size, 1, none⟩ = some (.slice B2 vs.length d2) := cell_keep hbw qA1 zA
        have r2 : w.cell? ⟨x7.heap.size, 2, none⟩ = some (.slice B3 ss.length d3) := cell_keep hbw qA2 zA
        clear hd
        go_simp
        first | done | with_reducible rfl
      (try simp only [Act.put, List.setIfInBounds_toArray, List.set_cons_zero, List.set_cons_succ, List.nil_append, List.cons_append])
      refine chain_is (step_take (by rfl) ?yr13n1) ?rr13n1
      case yr13n1 =>
        intro w hbw hd
        clear hd
        go_simp
        first | done | with_reducible rfl
      (try simp only [Act.put, List.setIfInBounds_toArray, List.set_cons_zero, List.set_cons_succ, List.nil_append, List.cons_append])
      refine chain_is (step_take (by rfl) ?yr13n2) ?rr13n2
      case yr13n2 =>
        intro w hbw hd
        clear hd
        go_simp
        first | done | with_reducible rfl
      (try simp only [Act.put, List.setIfInBounds_toArray, List.set_cons_zero, List.set_cons_succ, List.nil_append, List.cons_append])
      refine chain_is (step_take (by rfl) ?yr13n3) ?rr13n3
      case yr13n3 =>
        intro w hbw hd
        clear hd
        go_simp
        first | done | with_reducible rfl
      (try simp only [Act.put, List.setIfInBounds_toArray, List.set_cons_zero, List.set_cons_succ, List.nil_append, List.cons_append])
      refine chain_is (step_take (by rfl) ?yr13n4) ?rr13n4
      case yr13n4 =>
        intro w hbw hd
        have r9 : w.cell? ⟨b, off + k, none⟩ = some (.int .i64 x) := cell_keep hbw rx0 zx0
        clear hd
        go_simp
        first | done | with_reducible rfl
      (try simp only [Act.put, List.setIfInBounds_toArray, List.set_cons_zero, List.set_cons_succ, List.nil_append, List.cons_append])
      refine chain_is ?sr13n5 ?rr13n5
      case sr13n5 =>
        intro w hbw hd K Q' hK
        clear hd
        go_simp
        refine (Where_S B1 B2 B3 d1 d2 d3 us vs ss _ (MA_27.out.ext hbw) x).mono ?_
        rw [HC2.out, if_neg (by simp), HW1.out]
        rintro e x ⟨rfl, hx⟩
        go_wp2_with fail
        refine hK.out (.tuple #[.int .i64 wv, .int .i64 0]) _ _ ?_ ?_ rfl
        · (simp only [Act.put, List.setIfInBounds_toArray, List.set_cons_zero, List.set_cons_succ, List.nil_append, List.cons_append])
        · exact (by repeat' (first | with_reducible exact Below.refl _ _ | with_reducible assumption | with_reducible apply Below.drew | with_reducible apply below_drewN | with_reducible apply Below.alloc | with_reducible apply Below.setCell | (with_reducible refine Below.trans ?_ (Below.mono (by assumption) ?_)) | (simp; done) | (simp; omega) | omega | with_reducible apply le_size_alloc | with_reducible apply le_size_drewN | with_reducible apply le_size_drew | with_reducible apply le_size_setCell | with_reducible refine Nat.le_trans ?_ (Below.size (by assumption))))
      (try simp only [Act.put, List.setIfInBounds_toArray, List.set_cons_zero, List.set_cons_succ, List.nil_append, List.cons_append])
      refine chain_is (step_take (by rfl) ?yr13n6) ?rr13n6
      case yr13n6 =>
        intro w hbw hd
        clear hd
        go_simp
        first | done | with_reducible rfl
      (try simp only [Act.put, List.setIfInBounds_toArray, List.set_cons_zero, List.set_cons_succ, List.nil_append, List.cons_append])
      refine chain_is (step_take (by rfl) ?yr13n7) ?rr13n7
      case yr13n7 =>
        intro w hbw hd
        clear hd
        go_simp
        first | done | with_reducible rfl
      (try simp only [Act.put, List.setIfInBounds_toArray, List.set_cons_zero, List.set_cons_succ, List.nil_append, List.cons_append])
      refine chain_is (step_take (by rfl) ?yr13n8) ?rr13n8
      case yr13n8 =>
        intro w hbw hd
        clear hd
        go_simp
        first | done | with_reducible rfl
      (try simp only [Act.put, List.setIfInBounds_toArray, List.set_cons_zero, List.set_cons_succ, List.nil_append, List.cons_append])
      refine chain_is (step_take (by rfl) ?yr13n9) ?rr13n9
      case yr13n9 =>
        intro w hbw hd
        clear hd
        go_simp
        first | done | with_reducible rfl
      (try simp only [Act.put, List.setIfInBounds_toArray, List.set_cons_zero, List.set_cons_succ, List.nil_append, List.cons_append])
      refine chain_is (step_take (by rfl) ?yr13n10) ?rr13n10
      case yr13n10 =>
        intro w hbw hd
        clear hd
        go_simp
        first | done | with_reducible rfl
      (try simp only [Act.put, List.setIfInBounds_toArray, List.set_cons_zero, List.set_cons_succ, List.nil_append, List.cons_append])
      refine chain_end (fun wz hbz hd => ?_)
      clear hd
      have HCXa := Lib.hid (cell_keep hbz rx0 zx0)
      have HBLa := Lib.hid (Nat.lt_of_lt_of_le zx0 hbz.size)
      have HBKa := Lib.hid (HB0K.out.trans (hbz.mono HB0K.out.size))
      have bw28 : Below W0.heap.size W0 wz := (by repeat' (first | with_reducible exact Below.refl _ _ | with_reducible assumption | with_reducible apply Below.drew | with_reducible apply below_drewN | with_reducible apply Below.alloc | with_reducible apply Below.setCell | (with_reducible refine Below.trans ?_ (Below.mono (by assumption) ?_)) | (simp; done) | (simp; omega) | omega | with_reducible apply le_size_alloc | with_reducible apply le_size_drewN | with_reducible apply le_size_drew | with_reducible apply le_size_setCell | with_reducible refine Nat.le_trans ?_ (Below.size (by assumption))))
      have HB_28 : Hid (Below w.heap.size w wz) := HB_27.out.trans (bw28.mono HB_27.out.size)
      have ML_28 : Hid (InMem wz A1 A2 A3 xs ys rs) := ML_27.out.ext bw28
      have L_28 : Hid (Blk wz x3.heap.size 25 #[.slice A1 xs.length c1, .slice A2 ys.length c2, .slice A3 rs.length c3]) := L_27.out.below_ bw28 L_27.out.lt
      have MA_28 : Hid (InMem wz B1 B2 B3 us vs ss) := MA_27.out.ext bw28
      have A_28 : Hid (Blk wz x7.heap.size 25 #[.slice B1 us.length d1, .slice B2 vs.length d2, .slice B3 ss.length d3]) := A_27.out.below_ bw28 A_27.out.lt
      have B_28 : Hid (Blk wz x11.heap.size 25 #[.slice C1 ps.length e1, .slice C2 qs.length e2, .slice C3 ws.length e3]) := B_27.out.below_ bw28 B_27.out.lt
      have C_28 : Hid (Blk wz x15.heap.size 25 #[.slice D1 ps.length g1, .slice D2 qs.length g2, .slice D3 ws.length g3]) := C_27.out.below_ bw28 C_27.out.lt
      have SS_28 : Hid (Sl wz (.int .i64) (some ⟨b, off, none⟩) ls) := SS_27.out.ext bw28
      clear bw28 hbz HB_27 ML_27 L_27 MA_27 A_27 B_27 C_27 SS_27
      clear hz0 bw27 hb0 HB_26 ML_26 L_26 MA_26 A_26 B_26 C_26 SS_26 qA0 qA1 qA2 zA rx0 zx0 HB0K HCX HBL HBK
      obtain ⟨x29, rfl⟩ : ∃ x29 : World, x29 = wz := ⟨_, rfl⟩
      go_wp2_with fail
      refine wp_region_chain [.is ?fr14n0, .is ?fr14n1, .is ?fr14n2, .is ?fr14n3, .is ?fr14n4, .is (.tuple #[.int .i64 wv, .int .i64 0]), .is ?fr14n6, .is ?fr14n7, .is ?fr14n8, .is ?fr14n9, .is ?fr14n10] (by kernel_rfl) (by kernel_rfl) (by kernel_rfl) (lasts_is (lasts_is (lasts_is (lasts_is (lasts_is (lasts_is (lasts_is (lasts_is (lasts_is (lasts_is (lasts_is lasts_nil))))))))))) (fun W0 hb0 hz0 => ?_)
      rotate_left 10
      have bw30 : Below x29.heap.size x29 W0 := (by repeat' (first | with_reducible exact Below.refl _ _ | with_reducible assumption | with_reducible apply Below.drew | with_reducible apply below_drewN | with_reducible apply Below.alloc | with_reducible apply Below.setCell | (with_reducible refine Below.trans ?_ (Below.mono (by assumption) ?_)) | (simp; done) | (simp; omega) | omega | with_reducible apply le_size_alloc | with_reducible apply le_size_drewN | with_reducible apply le_size_drew | with_reducible apply le_size_setCell | with_reducible refine Nat.le_trans ?_ (Below.size (by assumption))))
      have HB_30 : Hid (Below w.heap.size w W0) := HB_28.out.trans (bw30.mono HB_28.out.size)
      have ML_30 : Hid (InMem W0 A1 A2 A3 xs ys rs) := ML_28.out.ext bw30
      have L_30 : Hid (Blk W0 x3.heap.size 25 #[.slice A1 xs.length c1, .slice A2 ys.length c2, .slice A3 rs.length c3]) := L_28.out.below_ bw30 L_28.out.lt
      have MA_30 : Hid (InMem W0 B1 B2 B3 us vs ss) := MA_28.out.ext bw30
      have A_30 : Hid (Blk W0 x7.heap.size 25 #[.slice B1 us.length d1, .slice B2 vs.length d2, .slice B3 ss.length d3]) := A_28.out.below_ bw30 A_28.out.lt
      have B_30 : Hid (Blk W0 x11.heap.size 25 #[.slice C1 ps.length e1, .slice C2 qs.length e2, .slice C3 ws.length e3]) := B_28.out.below_ bw30 B_28.out.lt
      have C_30 : Hid (Blk W0 x15.heap.size 25 #[.slice D1 ps.length g1, .slice D2 qs.length g2, .slice D3 ws.length g3]) := C_28.out.below_ bw30 C_28.out.lt
      have SS_30 : Hid (Sl W0 (.int .i64) (some ⟨b, off, none⟩) ls) := SS_28.out.ext bw30
      have qL0 : W0.cell? ⟨x3.heap.size, 0, none⟩ = some (.slice A1 xs.length c1) := (L_30.out.cell_ 0).trans (by simp)
      have qL1 : W0.cell? ⟨x3.heap.size, 1, none⟩ = some (.slice A2 ys.length c2) := (L_30.out.cell_ 1).trans (by simp)
      have qL2 : W0.cell? ⟨x3.heap.size, 2, none⟩ = some (.slice A3 rs.length c3) := (L_30.out.cell_ 2).trans (by simp)
      have zL : x3.heap.size < W0.heap.size := L_30.out.lt
      have rx0 : W0.cell? ⟨b, off + k, none⟩ = some (.int .i64 x) := cell_keep hb0 HCXa.out HBLa.out
      have zx0 : b < W0.heap.size := Nat.lt_of_lt_of_le HBLa.out hb0.size
      have HB0K := Lib.hid (HBKa.out.trans (hb0.mono HBKa.out.size))
      refine chain_is (step_take (by rfl) ?yr14n0) ?rr14n0
      case yr14n0 =>
        intro w hbw hd
        have r0 : w.cell? ⟨x3.heap.size, 0, none⟩ = some (.slice A1 xs.length c1) := cell_keep hbw qL0 zL
        have r1 : w.cell? ⟨x3.heap.size, 1, none⟩ = some (.slice A2 ys.length c2) := cell_keep hbw qL1 zL
        have r2 : w.cell? ⟨x3.heap.size, 2, none⟩ = some (.slice A3 rs.length c3) := cell_keep hbw qL2 zL
        clear hd
        go_simp
        first | done | with_reducible rfl
      (try simp only [Act.put, List.setIfInBounds_toArray, List.set_cons_zero, List.set_cons_succ, List.nil_append, List.cons_append])
      refine chain_is (step_take (by rfl) ?yr14n1) ?rr14n1
      case yr14n1 =>
        intro w hbw hd
        clear hd
        go_simp
        first | done | with_reducible rfl
      (try simp only [Act.put, List.setIfInBounds_toArray, List.set_cons_zero, List.set_cons_succ, List.nil_append, List.cons_append])
      refine chain_is (step_take (by rfl) ?yr14n2) ?rr14n2
      case yr14n2 =>
        intro w hbw hd
        clear hd
        go_simp
        first | done | with_reducible rfl
      (try simp only [Act.put, List.setIfInBounds_toArray, List.set_cons_zero, List.set_cons_succ, List.nil_append, List.cons_append])
      refine chain_is (step_take (by rfl) ?yr14n3) ?rr14n3
      case yr14n3 =>
        intro w hbw hd
        clear hd
        go_simp
        first | done | with_reducible rfl
      (try simp only [Act.put, List.setIfInBounds_toArray, List.set_cons_zero, List.set_cons_succ, List.nil_append, List.cons_append])
      refine chain_is (step_take (by rfl) ?yr14n4) ?rr14n4
      case yr14n4 =>
        intro w hbw hd
        have r9 : w.cell? ⟨b, off + k, none⟩ = some (.int .i64 x) := cell_keep hbw rx0 zx0
        clear hd
        go_simp
        first | done | with_reducible rfl
      (try simp only [Act.put, List.setIfInBounds_toArray, List.set_cons_zero, List.set_cons_succ, List.nil_append, List.cons_append])
      refine chain_is ?sr14n5 ?rr14n5
      case sr14n5 =>
        intro w hbw hd K Q' hK
        clear hd
        go_simp
        refine (Where_S A1 A2 A3 c1 c2 c3 xs ys rs _ (ML_30.out.ext hbw) x).mono ?_
        rw [HC1.out, if_neg (by simp), HW2.out]
        rintro e x ⟨rfl, hx⟩
        go_wp2_with fail
        refine hK.out (.tuple #[.int .i64 wv, .int .i64 0]) _ _ ?_ ?_ rfl
        · (simp only [Act.put, List.setIfInBounds_toArray, List.set_cons_zero, List.set_cons_succ, List.nil_append, List.cons_append])
        · exact (by repeat' (first | with_reducible exact Below.refl _ _ | with_reducible assumption | with_reducible apply Below.drew | with_reducible apply below_drewN | with_reducible apply Below.alloc | with_reducible apply Below.setCell | (with_reducible refine Below.trans ?_ (Below.mono (by assumption) ?_)) | (simp; done) | (simp; omega) | omega | with_reducible apply le_size_alloc | with_reducible apply le_size_drewN | with_reducible apply le_size_drew | with_reducible apply le_size_setCell | with_reducible refine Nat.le_trans ?_ (Below.size (by assumption))))
      (try simp only [Act.put, List.setIfInBounds_toArray, List.set_cons_zero, List.set_cons_succ, List.nil_append, List.cons_append])
      refine chain_is (step_take (by rfl) ?yr14n6) ?rr14n6
      case yr14n6 =>
        intro w hbw hd
        clear hd
        go_simp
        first | done | with_reducible rfl
      (try simp only [Act.put, List.setIfInBounds_toArray, List.set_cons_zero, List.set_cons_succ, List.nil_append, List.cons_append])
      refine chain_is (step_take (by rfl) ?yr14n7) ?rr14n7
      case yr14n7 =>
        intro w hbw hd
        clear hd
        go_simp
        first | done | with_reducible rfl
      (try simp only [Act.put, List.setIfInBounds_toArray, List.set_cons_zero, List.set_cons_succ, List.nil_append, List.cons_append])
      refine chain_is (step_take (by rfl) ?yr14n8) ?rr14n8
      case yr14n8 =>
        intro w hbw hd
        clear hd
        go_simp
        first | done | with_reducible rfl
      (try simp only [Act.put, List.setIfInBounds_toArray, List.set_cons_zero, List.set_cons_succ, List.nil_append, List.cons_append])
      refine chain_is (step_take (by rfl) ?yr14n9) ?rr14n9
      case yr14n9 =>
        intro w hbw hd
        clear hd
        go_simp
        first | done | with_reducible rfl
      (try simp only [Act.put, List.setIfInBounds_toArray, List.set_cons_zero, List.set_cons_succ, List.nil_append, List.cons_append])
      refine chain_is (step_take (by rfl) ?yr14n10) ?rr14n10
      case yr14n10 =>
        intro w hbw hd
        clear hd
        go_simp
        first | done | with_reducible rfl
      (try simp only [Act.put, List.setIfInBounds_toArray, List.set_cons_zero, List.set_cons_succ, List.nil_append, List.cons_append])
      refine chain_end (fun wz hbz hd => ?_)
      clear hd
      have HCXaa := Lib.hid (cell_keep hbz rx0 zx0)
      have HBLaa := Lib.hid (Nat.lt_of_lt_of_le zx0 hbz.size)
      have HBKaa := Lib.hid (HB0K.out.trans (hbz.mono HB0K.out.size))
      have bw31 : Below W0.heap.size W0 wz := (by repeat' (first | with_reducible exact Below.refl _ _ | with_reducible assumption | with_reducible apply Below.drew | with_reducible apply below_drewN | with_reducible apply Below.alloc | with_reducible apply Below.setCell | (with_reducible refine Below.trans ?_ (Below.mono (by assumption) ?_)) | (simp; done) | (simp; omega) | omega | with_reducible apply le_size_alloc | with_reducible apply le_size_drewN | with_reducible apply le_size_drew | with_reducible apply le_size_setCell | with_reducible refine Nat.le_trans ?_ (Below.size (by assumption))))
      have HB_31 : Hid (Below w.heap.size w wz) := HB_30.out.trans (bw31.mono HB_30.out.size)
      have ML_31 : Hid (InMem wz A1 A2 A3 xs ys rs) := ML_30.out.ext bw31
      have L_31 : Hid (Blk wz x3.heap.size 25 #[.slice A1 xs.length c1, .slice A2 ys.length c2, .slice A3 rs.length c3]) := L_30.out.below_ bw31 L_30.out.lt
      have MA_31 : Hid (InMem wz B1 B2 B3 us vs ss) := MA_30.out.ext bw31
      have A_31 : Hid (Blk wz x7.heap.size 25 #[.slice B1 us.length d1, .slice B2 vs.length d2, .slice B3 ss.length d3]) := A_30.out.below_ bw31 A_30.out.lt
      have B_31 : Hid (Blk wz x11.heap.size 25 #[.slice C1 ps.length e1, .slice C2 qs.length e2, .slice C3 ws.length e3]) := B_30.out.below_ bw31 B_30.out.lt
      have C_31 : Hid (Blk wz x15.heap.size 25 #[.slice D1 ps.length g1, .slice D2 qs.length g2, .slice D3 ws.length g3]) := C_30.out.below_ bw31 C_30.out.lt
      have SS_31 : Hid (Sl wz (.int .i64) (some ⟨b, off, none⟩) ls) := SS_30.out.ext bw31
      clear bw31 hbz HB_30 ML_30 L_30 MA_30 A_30 B_30 C_30 SS_30
      clear hz0 bw30 hb0 HB_28 ML_28 L_28 MA_28 A_28 B_28 C_28 SS_28 qL0 qL1 qL2 zL rx0 zx0 HB0K HCXa HBLa HBKa
      obtain ⟨x32, rfl⟩ : ∃ x32 : World, x32 = wz := ⟨_, rfl⟩
      by_cases hk0 : k = 0
      · have d0 : decide ((k : Int) > 0) = false := by simp; omega
        have d0b : decide (0 < (k : Int)) = false := by simp; omega
        have d0c : decide (0 < k) = false := by simp; omega
        go_wp2_with fail
        go_quiet (fail)
        go_wp2_with fail
        go_roundw
        case rel => exact ⟨k + 1, by omega, by go_num, (by have hb := HBKaa.out; exact (by repeat' (first | with_reducible exact Below.refl _ _ | with_reducible assumption | with_reducible apply Below.drew | with_reducible apply below_drewN | with_reducible apply Below.alloc | with_reducible apply Below.setCell | (with_reducible refine Below.trans ?_ (Below.mono (by assumption) ?_)) | (simp; done) | (simp; omega) | omega | with_reducible apply le_size_alloc | with_reducible apply le_size_drewN | with_reducible apply le_size_drew | with_reducible apply le_size_setCell | refine Nat.le_trans ?_ (Below.size (by assumption)))))⟩
        case measure => simp [intOf]; omega
      · obtain ⟨j, hkj⟩ : ∃ j, k = j + 1 := ⟨k - 1, by omega⟩
        have d0 : decide ((k : Int) > 0) = true := by simp; omega
        have d0b : decide (0 < (k : Int)) = true := by simp; omega
        have d0c : decide (0 < k) = true := by simp; omega
        obtain ⟨b2, off2, y, hXe2, hbl2, hy, hc2⟩ := SS_31.out.at_ (show j < ls.length by omega)
        injection hXe2 with hXe2
        injection hXe2 with hb2 ho2
        subst hb2 ho2
        have hyx := HSF.out.inc j y x hy (by rw [← hkj]; exact HXK.out)
        have d1 : decide (x ≤ y) = false := by simp; omega
        have i2 : (j : Int) < ls.length := by omega
        have hj1 : (k : Int) - 1 = j := by omega
        have hwj : IntKind.i64.wrap (j : Int) = j := by rw [IntKind.wrap_i64]; omega
        have hc3 := HCXaa.out
        have hb3 := HBLaa.out
        have HKJ := Lib.hid hkj
        clear hy hyx hkj
        go_wp2_with fail
        go_quiet (fail)
        go_wp2_with fail
        go_roundw
        case rel => exact ⟨k + 1, by omega, by go_num, (by have hb := HBKaa.out; exact (by repeat' (first | with_reducible exact Below.refl _ _ | with_reducible assumption | with_reducible apply Below.drew | with_reducible apply below_drewN | with_reducible apply Below.alloc | with_reducible apply Below.setCell | (with_reducible refine Below.trans ?_ (Below.mono (by assumption) ?_)) | (simp; done) | (simp; omega) | omega | with_reducible apply le_size_alloc | with_reducible apply le_size_drewN | with_reducible apply le_size_drew | with_reducible apply le_size_setCell | refine Nat.le_trans ?_ (Below.size (by assumption)))))⟩
        case measure => simp [intOf]; omega
    · obtain rfl : k = ls.length := by omega
      go_wp2_with fail
      go_ret
      exact ⟨by first | rfl | simp, HB_26.out⟩

set_option maxRecDepth 100000 in
theorem scanParts_lifted (os : Os) (started : os.Started) (H : Type) (enc : TypeId × Value → H) :
    ReturnsInHanded {} Try.checked os 9 .any (Rows.scanPartsSpec.pre6 enc Try.prog Try.f9 Rows.scanPartsRow.domain false) (Rows.scanPartsSpec.post enc Try.prog Try.f9 false true false false) := by
  refine returnsInHanded_of_change (C := Try.checked) own started (by kernel_rfl) Try.func9
    (ChangeSpec.witness6 (enc := enc) (C := Try.checked) false ⟨#[], #[.slice none 0 0, .int .i64 0, .int .i64 0, .int .i64 0], []⟩ 8 (by kernel_rfl) (by kernel_rfl) (by kernel_rfl) (by kernel_rfl)) ?_
  intro W base args ds gs before hval0 hW hcnd _
  have hval : ∀ (j : Nat) t v, Try.f9.params[j]? = some t → args[j]? = some v → Value.okWide Try.prog W .any base t v := hval0
  have hW' := hW
  obtain ⟨p, q, hA0, hV, rfl, hfz, hnd⟩ := hW
  have hA : DataW.TrodAll enc Try.prog W 0 (fun _ => true) true Try.f9.params.toList args.toList ds p := hA0
  rw [Try.params9] at hA hval
  obtain ⟨v0, vs0, d0, ds0, p0, q0, hargs, rfl, rfl, h0, r0⟩ := trodAll_cons hA
  obtain ⟨v1, vs1, d1, ds1, p1, q1, rfl, rfl, rfl, h1, r1⟩ := trodAll_cons r0
  obtain ⟨v2, vs2, d2, ds2, p2, q2, rfl, rfl, rfl, h2, r2⟩ := trodAll_cons r1
  obtain ⟨v3, vs3, d3, ds3, p3, q3, rfl, rfl, rfl, h3, r3⟩ := trodAll_cons r2
  obtain ⟨rfl, rfl, rfl⟩ := trodAll_nil r3
  obtain rfl : args = #[v0, v1, v2, v3] := by cases args; simp_all
  obtain ⟨rfl, rfl⟩ := trodVars_none hV
  obtain ⟨A0, k0, a0, rfl, s0, w0, l0⟩ := open_slI Try.underlying22 Try.underlying3 (by kernel_rfl) (hval 0 22 v0 rfl rfl) h0
  obtain ⟨a1, rfl, rfl, rfl, w1⟩ := open_int Try.underlying3 (hval 1 3 v1 rfl rfl) h1
  obtain ⟨a2, rfl, rfl, rfl, w2⟩ := open_int Try.underlying3 (hval 2 3 v2 rfl rfl) h2
  obtain ⟨a3, rfl, rfl, rfl, w3⟩ := open_int Try.underlying3 (hval 3 3 v3 rfl rfl) h3
  clear hA0 hval0
  refine (scanParts_walk A0 k0 a0 a1 a2 a3 W s0 w0 l0 w1 w2 w3).mono fun e W' ⟨he, hb⟩ => ⟨_, he, ?_⟩
  exact law_post laidOut (s := Rows.scanPartsSpec) (B := 4) rfl rfl Try.underlying4 (by decide +kernel) hW' rfl hb

theorem scanParts_holds : Rows.ScanPartsSaid :=
  OpenClaim.holds_of_wide 9 Try.f9 rfl rfl rfl rfl rfl rfl rfl ⟨rfl, rfl, rfl, rfl, rfl⟩ rfl rfl rfl rfl rfl (by kernel_rfl) Try.func9 (by kernel_rfl)
    (of_decide_eq_true (by kernel_rfl)) (by unfold Func.isWrapper; first | (rw [if_pos (by decide +kernel)]; kernel_rfl) | (rw [if_neg (by decide +kernel)]; exact ⟨rfl, rfl⟩))
    (fun os started H enc _ => scanParts_lifted os started H enc)

end Go.Proofs.Ytiobbdfkimpfbaa
