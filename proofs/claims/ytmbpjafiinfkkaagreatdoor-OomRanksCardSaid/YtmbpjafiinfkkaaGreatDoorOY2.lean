/- Package oom: Yield. No statement is proved here. -/
import Derived.Test.YtmbpjafiinfkkaaGreatDoorOY
namespace Go.Proofs.YtmbpjafiinfkkaaGreatDoor
set_option linter.unusedSimpArgs false
set_option linter.unusedVariables false
open Go.RowKit Go.Maps

theorem fstNZ_zero : ∀ {l : List Int}, fstNZ l = 0 → ∀ y ∈ l, y = 0
  | [], _, y, h => by simp at h
  | x :: l, h, y, hy => by
    unfold fstNZ at h
    by_cases hx : x = 0
    · rw [if_pos hx] at h
      rcases List.mem_cons.1 hy with rfl | hy
      · exact hx
      · exact fstNZ_zero h y hy
    · rw [if_neg hx] at h; exact absurd h hx
theorem scrE_each {l : List PV} (h : scrE l = 0) : ∀ p ∈ l, scoE p.es = 0 := by
  have h1 := scrE_ok h
  unfold scrE at h
  rw [if_neg (by omega)] at h
  exact fun p hp => fstNZ_zero h _ (List.mem_map.2 ⟨p, hp, rfl⟩)
theorem frmL_range {es : List Nat} {x : Int} (h : x ∈ frmL es) : 0 ≤ x ∧ x < 256 := by
  unfold frmL at h
  obtain ⟨y, _, rfl⟩ := List.mem_map.1 h
  unfold eN
  omega
/-- The frames of process i. -/
def frmAt (l : List PV) (i : Nat) : List Int := match l[i]? with | some p => frmL p.es | none => []
theorem frmAt_some {l : List PV} {i : Nat} {p : PV} (h : l[i]? = some p) : frmAt l i = frmL p.es := by unfold frmAt; rw [h]
theorem frmAt_range {l : List PV} {i : Nat} {x : Int} (h : x ∈ frmAt l i) : 0 ≤ x ∧ x < 256 := by
  unfold frmAt at h
  split at h
  · exact frmL_range h
  · cases h
/-- A frame of process k, and of none of the first n others. -/
def aloneP (l : List PV) (k n : Nat) (f : Int) : Prop := f ∈ frmAt l k ∧ ∀ i, i < n → i ≠ k → f ∉ frmAt l i
instance (l : List PV) (k n : Nat) (f : Int) : Decidable (aloneP l k n f) := by unfold aloneP; infer_instance
theorem aloneP_zero (l : List PV) (k : Nat) (f : Int) : aloneP l k 0 f ↔ f ∈ frmAt l k := ⟨fun h => h.1, fun h => ⟨h, fun i hi => by omega⟩⟩
theorem aloneP_own (l : List PV) (k : Nat) (f : Int) : aloneP l k (k + 1) f ↔ aloneP l k k f :=
  ⟨fun h => ⟨h.1, fun i hi hk => h.2 i (by omega) hk⟩, fun h => ⟨h.1, fun i hi hk => h.2 i (by omega) hk⟩⟩
theorem aloneP_next {l : List PV} {k n : Nat} (hk : n ≠ k) (f : Int) : aloneP l k (n + 1) f ↔ (aloneP l k n f ∧ f ∉ frmAt l n) :=
  ⟨fun h => ⟨⟨h.1, fun i hi h2 => h.2 i (by omega) h2⟩, h.2 n (by omega) hk⟩, fun h => ⟨h.1.1, fun i hi h2 => by
    rcases Nat.lt_or_ge i n with h3 | h3
    · exact h.1.2 i h3 h2
    · obtain rfl : i = n := by omega
      exact h.2⟩⟩
/-- The frames that process k alone maps. -/
def aloneL (l : List PV) (k : Nat) : List Int := ((List.range 256).map (fun (n : Nat) => (n : Int))).filter fun f => decide (aloneP l k l.length f)
theorem aloneL_asc (l : List PV) (k : Nat) : (aloneL l k).Pairwise (· < ·) := by
  unfold aloneL
  refine List.Pairwise.filter _ ?_
  rw [List.pairwise_map]
  exact List.pairwise_lt_range.imp fun {a b} h => by omega
theorem aloneL_mem (l : List PV) (k : Nat) (f : Int) : f ∈ aloneL l k ↔ aloneP l k l.length f := by
  unfold aloneL
  rw [List.mem_filter, decide_eq_true_eq, List.mem_map]
  constructor
  · exact fun h => h.2
  · intro h
    have := frmAt_range h.1
    exact ⟨⟨f.toNat, List.mem_range.2 (by omega), by omega⟩, h⟩
theorem aloneL_len (l : List PV) (k : Nat) : (aloneL l k).length ≤ 256 := by
  unfold aloneL
  refine Nat.le_trans (List.length_filter_le _ _) (by simp)
/-- How many of the first n leaves there are. -/
def lvsN (lv : List Int) : Nat := (lv.filter (fun x => decide (x ≠ -1))).length
theorem lvsN_snoc (l : List Int) (x : Int) : lvsN (l ++ [x]) = lvsN l + if x = -1 then 0 else 1 := by
  unfold lvsN
  by_cases h : x = -1 <;> simp [h]
theorem lvsN_le (l : List Int) : lvsN l ≤ l.length := List.length_filter_le _ _
/-- The tables of a process. -/
def tblN (p : PV) : Nat := (if p.root = -1 then 0 else 1) + lvsN p.lv
/-- What process pr yields, or the error. -/
def yldE (l : List PV) (pr : Int) : Int :=
  if scrE l = 0 then (if pr < 1 ∨ (l.length : Int) < pr then 2 else match l[(pr - 1).toNat]? with | some p => (if p.st = 0 then 11 else 0) | none => 2) else scrE l
def yldI (l : List PV) (pr : Int) : Int :=
  if yldE l pr = 0 then (match l[(pr - 1).toNat]? with | some p => (((aloneL l (pr - 1).toNat).length + tblN p : Nat) : Int) | none => 0) else 0
theorem own_far {w : World} {base B n c : Nat} {A : Option Addr} {l : List Int} (h : OwnR intE w base (.slice A n c) l) (hB : B < base) : ∀ b, A.map (·.block) = some b → b ≠ B := fun b hb => by
  cases A with
  | none => cases hb
  | some a =>
    obtain ⟨g, o, sp⟩ := a
    have := (OwnR.block h).1
    simp at hb
    omega
theorem pvC_root (p : PV) : (pvC p).toArray[1]? = some (.int .i64 p.root) := rfl
/-- The leaves as a value. -/
def leavesL (lv : List Int) : List Value := lv.map (fun n => .int .i64 n)
theorem sz8 {lv : List Int} (he : lv.length = 8) : (Tryz.prog.info? 36).map (·.size) = some (leavesL lv).length := by
  unfold leavesL
  rw [List.length_map, he]
  kernel_rfl
theorem range8 (p : PV) {w : World} {b off : Nat} (h : w.rangeAt b off (pvC p)) : w.rangeAt b (off + 2) (leavesL p.lv) := by
  intro j v hv
  unfold leavesL at hv
  rw [List.getElem?_map, Option.map_eq_some_iff] at hv
  obtain ⟨x, hx, rfl⟩ := hv
  have := h (2 + j) _ (pvC_leaf p hx)
  rw [show off + 2 + j = off + (2 + j) by omega]
  exact this
theorem idx8 {lv : List Int} (he : lv.length = 8) {i : Nat} {x : Int} (hx : lv[i]? = some x) (w : World) : (Instr.index 36 (.agg (leavesL lv).toArray) (.int .i64 i)).run Tryz.prog w = .ok (.int .i64 x) w := by
  obtain ⟨hi, e⟩ := List.getElem?_eq_some_iff.1 hx
  have h2 : i < 8 := by omega
  have h3 : (i : Int) < 8 := by omega
  have h4 : (leavesL lv)[i]? = some (.int .i64 x) := by unfold leavesL; rw [List.getElem?_map, hx]; rfl
  have hs : (sizeOf 3).run Tryz.prog w = .ok 1 w := by
    have : (Tryz.prog.info? 3).map (·.size) = some 1 := by kernel_rfl
    cases hq : Tryz.prog.info? 3 with
    | none => simp [hq] at this
    | some i => simp [hq] at this; simp [sizeOf, typeInfo, hq, this]
  have ha : (isAgg 3).run Tryz.prog w = .ok false w := by
    unfold isAgg
    rw [Sem.run_bind, run_underlying Tryz.underlying3 w]
    simp [Result.andThen]
  simp [Instr.index, run_underlying Tryz.underlying36, asIntOf, h3, hs, part, ha, Result.andThen, h4]
  intro h
  omega

set_option maxRecDepth 100000 in
set_option maxHeartbeats 16000000 in
theorem Yield_any (A : Option Addr) (c : Nat) (l : List PV) (pr : Int) (w : World) (hal : AL w) (hs : SR procE w A l) (ll : l.length ≤ 1000) :
    Calls Tryz.prog 31 #[.slice A l.length c, .int .i64 pr] w fun e w' => e = .returned (.tuple #[.int .i64 (yldI l pr), .int .i64 (yldE l pr)]) ∧ Below w.heap.size w w' := by
  have hS := Scores_any A c l w hal hs ll
  unfold ScrPost at hS
  by_cases h0 : scrE l = 0
  · rw [h0] at hS
    obtain ⟨n1, n8⟩ := scrE_ok h0
    have HE := Lib.hid (scrE_each h0)
    by_cases hr : pr < 1 ∨ (l.length : Int) < pr
    · have e1 : yldE l pr = 2 := by unfold yldE; rw [if_pos h0, if_pos hr]
      have e2 : yldI l pr = 0 := by unfold yldI; rw [e1]; rfl
      rw [e1, e2]
      clear e1 e2 h0 hs
      rcases (by omega : pr < 1 ∨ (¬ pr < 1 ∧ (l.length : Int) < pr)) with h1 | ⟨h1, h2⟩
      all_goals
        clear hr
        go_enter Tryz.func31, Tryz.ntmps31
        go_wp2_with fail
        refine hS.mono ?_
        rintro e w1 ⟨⟨A2, c2, rfl, _⟩, hb1⟩
        go_wp2
        refine bodyPost_ret (v := .tuple #[.int .i64 0, .int .i64 2]) (by simp [results, Tryz.results31, go_sem]) rfl ?_
        exact ⟨rfl, (by repeat' (first | with_reducible exact Below.refl _ _ | with_reducible assumption | with_reducible apply Below.drew | with_reducible apply below_drewN | with_reducible apply Below.alloc | with_reducible apply Below.setCell | (with_reducible refine Below.trans ?_ (Below.mono (by assumption) ?_)) | (simp; done) | (simp; omega) | omega | with_reducible apply le_size_alloc | with_reducible apply le_size_drewN | with_reducible apply le_size_drew | with_reducible apply le_size_setCell | refine Nat.le_trans ?_ (Below.size (by assumption))))⟩
    · obtain ⟨p1, p2⟩ : 1 ≤ pr ∧ pr ≤ (l.length : Int) := by omega
      obtain ⟨m, rfl⟩ : ∃ m : Nat, pr = (m : Int) + 1 := ⟨(pr - 1).toNat, by omega⟩
      have em : ((m : Int) + 1 - 1).toNat = m := by omega
      have hml : m < l.length := by omega
      obtain ⟨p, hp⟩ : ∃ p, l[m]? = some p := ⟨_, List.getElem?_eq_getElem hml⟩
      have hpx : ∀ y, l[m]? = some y → y = p := fun y h => by rw [hp] at h; injection h with h; exact h.symm
      have HPX := Lib.hid hpx
      by_cases h2 : p.st = 0
      · have e1 : yldE l ((m : Int) + 1) = 11 := by unfold yldE; rw [if_pos h0, if_neg hr, em, hp]; simp [h2]
        have e2 : yldI l ((m : Int) + 1) = 0 := by unfold yldI; rw [e1]; rfl
        rw [e1, e2]
        have HS := Lib.hid hs
        have hb2 : (p.st == 0) = true := by simpa using h2
        clear e1 e2 h0 hs hr hp hpx em
        go_enter Tryz.func31, Tryz.ntmps31
        go_wp2_with fail
        refine hS.mono ?_
        rintro e w1 ⟨⟨A2, c2, rfl, _⟩, hb1⟩
        have z1 := hb1.size
        obtain ⟨b, off, x, rfl, hbl, hx, hR⟩ := proc_at (HS.out.ext hb1) hml
        obtain rfl := HPX.out x hx
        obtain ⟨V, hV⟩ : ∃ V, w1.alloc (.cells (pvC x).toArray 41) = V := ⟨_, rfl⟩
        have BV : Below w1.heap.size w1 V := by rw [← hV]; exact (by repeat' (first | with_reducible exact Below.refl _ _ | with_reducible assumption | with_reducible apply Below.drew | with_reducible apply below_drewN | with_reducible apply Below.alloc | with_reducible apply Below.setCell | (with_reducible refine Below.trans ?_ (Below.mono (by assumption) ?_)) | (simp; done) | (simp; omega) | omega | with_reducible apply le_size_alloc | with_reducible apply le_size_drewN | with_reducible apply le_size_drew | with_reducible apply le_size_setCell | refine Nat.le_trans ?_ (Below.size (by assumption))))
        have kV : Blk V w1.heap.size 41 (pvC x).toArray := by rw [← hV]; exact Blk.new_ rfl rfl
        have zV : w1.heap.size < V.heap.size := kV.lt
        have q0 : V.cell? ⟨w1.heap.size, 0, none⟩ = some (.int .i64 x.st) := (kV.cell_ 0).trans (pvC_st x)
        clear hx hS
        go_wp2_with (first
          | (refine wpList_load_mid rfl 41 _ rfl b (off + m * 75) rfl (pvC x) _ hR Tryz.underlying41 rfl (sz75 x) ?_)
          | (refine wpList_store_new _ rfl 41 _ _ rfl _ _ rfl rfl (sz75' x) (size75 x) (all75 x) ?_; try rw [hV]))
        refine bodyPost_ret (v := .tuple #[.int .i64 0, .int .i64 11]) (by simp [results, Tryz.results31, go_sem]) rfl ?_
        exact ⟨rfl, (by repeat' (first | with_reducible exact Below.refl _ _ | with_reducible assumption | with_reducible apply Below.drew | with_reducible apply below_drewN | with_reducible apply Below.alloc | with_reducible apply Below.setCell | (with_reducible refine Below.trans ?_ (Below.mono (by assumption) ?_)) | (simp; done) | (simp; omega) | omega | with_reducible apply le_size_alloc | with_reducible apply le_size_drewN | with_reducible apply le_size_drew | with_reducible apply le_size_setCell | refine Nat.le_trans ?_ (Below.size (by assumption))))⟩
      · have e1 : yldE l ((m : Int) + 1) = 0 := by unfold yldE; rw [if_pos h0, if_neg hr, em, hp]; simp [h2]
        have e2 : yldI l ((m : Int) + 1) = (((aloneL l m).length + tblN p : Nat) : Int) := by unfold yldI; rw [e1, if_pos rfl, em, hp]
        obtain ⟨a, ha⟩ : ∃ a, (aloneL l m).length = a := ⟨_, rfl⟩
        rw [e1, e2, ha]
        have HAA := Lib.hid ha
        clear ha
        have HS := Lib.hid hs
        have hb2 : (p.st == 0) = false := by simpa using h2
        have HPM := Lib.hid hp
        clear e1 e2 h0 hs hr hp hpx em
        go_enter Tryz.func31, Tryz.ntmps31
        go_wp2_with fail
        refine hS.mono ?_
        rintro e w1 ⟨⟨A2, c2, rfl, _⟩, hb1⟩
        have z1 := hb1.size
        obtain ⟨b, off, x, rfl, hbl, hx, hR⟩ := proc_at (HS.out.ext hb1) hml
        obtain rfl := HPX.out x hx
        obtain ⟨V, hV⟩ : ∃ V, w1.alloc (.cells (pvC x).toArray 41) = V := ⟨_, rfl⟩
        have BV : Below w1.heap.size w1 V := by rw [← hV]; exact (by repeat' (first | with_reducible exact Below.refl _ _ | with_reducible assumption | with_reducible apply Below.drew | with_reducible apply below_drewN | with_reducible apply Below.alloc | with_reducible apply Below.setCell | (with_reducible refine Below.trans ?_ (Below.mono (by assumption) ?_)) | (simp; done) | (simp; omega) | omega | with_reducible apply le_size_alloc | with_reducible apply le_size_drewN | with_reducible apply le_size_drew | with_reducible apply le_size_setCell | refine Nat.le_trans ?_ (Below.size (by assumption))))
        have kV : Blk V w1.heap.size 41 (pvC x).toArray := by rw [← hV]; exact Blk.new_ rfl rfl
        have zV : w1.heap.size < V.heap.size := kV.lt
        have q0 : V.cell? ⟨w1.heap.size, 0, none⟩ = some (.int .i64 x.st) := (kV.cell_ 0).trans (pvC_st x)
        obtain ⟨V2, hV2⟩ : ∃ V2, V.alloc (.map #[] 0) = V2 := ⟨_, rfl⟩
        have hM0 : SetI V2 V.heap.size 0 (fun _ => False) := by rw [← hV2]; exact SetI.new_ _
        have BV2 : Below V.heap.size V V2 := by rw [← hV2]; exact (by repeat' (first | with_reducible exact Below.refl _ _ | with_reducible assumption | with_reducible apply Below.drew | with_reducible apply below_drewN | with_reducible apply Below.alloc | with_reducible apply Below.setCell | (with_reducible refine Below.trans ?_ (Below.mono (by assumption) ?_)) | (simp; done) | (simp; omega) | omega | with_reducible apply le_size_alloc | with_reducible apply le_size_drewN | with_reducible apply le_size_drew | with_reducible apply le_size_setCell | refine Nat.le_trans ?_ (Below.size (by assumption))))
        have zV2 : V.heap.size < V2.heap.size := hM0.lt
        have kV2 := kV.below_ BV2 zV
        have hal2 : AL V2 := hal.ext (hb1.trans ((BV.trans (BV2.mono (by omega))).mono z1))
        have hpre := present_own x V2 hal2 (HE.out x (List.mem_of_getElem? hx))
        unfold pvV at hpre
        have hR2 : V2.rangeAt w1.heap.size 0 (pvC x) := kV2.rangePV
        have hmm := @run_makeMap Tryz.prog
        have hfl := frmL_len x.es
        have he64 := x.he
        have HM0 := Lib.hid hM0
        clear hx hS hM0
        go_wp2_with (first
          | (refine wpList_load_mid rfl 41 _ rfl b (off + m * 75) rfl (pvC x) _ hR Tryz.underlying41 rfl (sz75 x) ?_)
          | (refine wpList_store_new _ rfl 41 _ _ rfl _ _ rfl rfl (sz75' x) (size75 x) (all75 x) ?_; try rw [hV])
          | (refine wpList_load_mid rfl 41 _ rfl w1.heap.size 0 rfl (pvC x) _ hR2 Tryz.underlying41 rfl (sz75 x) ?_)
          | (go_at_call 58; refine hpre.mono ?_; rintro e w3 ⟨⟨A3, c3, rfl, hO3⟩, hb3⟩; have hadd := setAdd_any V.heap.size 0 _ A3 c3 (frmL x.es) w3 V.heap.size (Nat.le_refl _) (HM0.out.ext hb3) (by omega) (OwnR.sr hO3).2.sl (own_far hO3 zV2) (fun y hy => wf_i64 (by have := frmL_range hy; omega) (by have := frmL_range hy; omega)))
          | (go_at_call 57; refine hadd.mono ?_; rintro e w4 ⟨rfl, hm4, hb4⟩))
        have zm4 : V.heap.size < w4.heap.size := hm4.lt
        have B14 : Below w1.heap.size w1 w4 := BV.trans (((BV2.trans (hb3.mono (by omega))).trans hb4).mono (by omega))
        have Bw4 : Below w.heap.size w w4 := hb1.trans (B14.mono z1)
        have kV4 : Blk w4 w1.heap.size 41 (pvC x).toArray := kV2.below_ ((hb3.mono (by omega)).trans hb4) zV
        have HM4 : Hid (SetI w4 V.heap.size 64 (aloneP l m 0)) := (hm4.mono (by omega)).congr fun j => by rw [aloneP_zero, frmAt_some HPM.out]; simp
        have hal4 : AL w4 := hal.ext Bw4
        have HLV := Lib.hid x.hl
        clear hm4 hadd hpre hR hR2 kV kV2 hO3 q0 hb3 hb4 hV2 hV hb2 HM0 hal2
        go_loopw [48] (fun i wr => ∃ k : Nat, k ≤ l.length ∧ i = .int .i64 k ∧ Hid (SetI wr V.heap.size 64 (aloneP l m k)) ∧ Below V.heap.size w4 wr) (fun i _ => l.length - (intOf i).toNat)
        case atStart => exact ⟨0, by omega, rfl, HM4.out, Below.refl _ _⟩
        case round =>
          obtain ⟨k, hk, rfl, HM, hbw⟩ := hrel
          have zM : V.heap.size < wr.heap.size := HM.out.lt
          have B1r : Below w1.heap.size w1 wr := B14.trans (hbw.mono (by omega))
          have Bwr : Below w.heap.size w wr := hb1.trans (B1r.mono z1)
          have kVr : Blk wr w1.heap.size 41 (pvC x).toArray := kV4.below_ hbw zV
          by_cases hlt : k < l.length
          · obtain ⟨b9, off9, y, e9, hby, hy, hRy⟩ := proc_at (HS.out.ext Bwr) hlt
            injection e9 with e9
            injection e9 with e91 e92 _
            subst e91 e92
            have i1 : (k : Int) < l.length := by omega
            obtain ⟨Y, hY⟩ : ∃ Y, wr.alloc (.cells (pvC y).toArray 41) = Y := ⟨_, rfl⟩
            have BY : Below wr.heap.size wr Y := by rw [← hY]; exact (by repeat' (first | with_reducible exact Below.refl _ _ | with_reducible assumption | with_reducible apply Below.drew | with_reducible apply below_drewN | with_reducible apply Below.alloc | with_reducible apply Below.setCell | (with_reducible refine Below.trans ?_ (Below.mono (by assumption) ?_)) | (simp; done) | (simp; omega) | omega | with_reducible apply le_size_alloc | with_reducible apply le_size_drewN | with_reducible apply le_size_drew | with_reducible apply le_size_setCell | refine Nat.le_trans ?_ (Below.size (by assumption))))
            have kY : Blk Y wr.heap.size 41 (pvC y).toArray := by rw [← hY]; exact Blk.new_ rfl rfl
            have zY : wr.heap.size < Y.heap.size := kY.lt
            have hRY : Y.rangeAt wr.heap.size 0 (pvC y) := kY.rangePV
            by_cases hkm : k = m
            · have HM2 : Hid (SetI Y V.heap.size 64 (aloneP l m (k + 1))) := by
                subst hkm
                exact (HM.out.below_ BY zM).congr fun j => (aloneP_own l k j).symm
              have hbkm : ((k : Int) == (m : Int)) = true := beq_iff_eq.2 (by omega)
              clear hy hRY HM hkm
              go_wp2_with (first
                | (refine wpList_load_mid rfl 41 _ rfl b (off + k * 75) rfl (pvC y) _ hRy Tryz.underlying41 rfl (sz75 y) ?_)
                | (refine wpList_store_new _ rfl 41 _ _ rfl _ _ rfl rfl (sz75' y) (size75 y) (all75 y) ?_; try rw [hY]))
              go_roundw
              case rel => exact ⟨k + 1, by omega, by go_num, HM2.out, (by repeat' (first | with_reducible exact Below.refl _ _ | with_reducible assumption | with_reducible apply Below.drew | with_reducible apply below_drewN | with_reducible apply Below.alloc | with_reducible apply Below.setCell | (with_reducible refine Below.trans ?_ (Below.mono (by assumption) ?_)) | (simp; done) | (simp; omega) | omega | with_reducible apply le_size_alloc | with_reducible apply le_size_drewN | with_reducible apply le_size_drew | with_reducible apply le_size_setCell | refine Nat.le_trans ?_ (Below.size (by assumption))))⟩
              case measure => simp [intOf]; omega
            · have hbkm : ((k : Int) == (m : Int)) = false := beq_eq_false_iff_ne.2 (by omega)
              have hpre := present_own y Y (hal.ext (Bwr.trans (BY.mono (by have := Bwr.size; omega)))) (HE.out y (List.mem_of_getElem? hy))
              unfold pvV at hpre
              have HFR : Hid (frmAt l k = frmL y.es) := frmAt_some hy
              have HMY : Hid (SetI Y V.heap.size 64 (aloneP l m k)) := HM.out.below_ BY zM
              have hfy := frmL_len y.es
              have hey := y.he
              clear hy HM
              go_wp2_with (first
                | (refine wpList_load_mid rfl 41 _ rfl b (off + k * 75) rfl (pvC y) _ hRy Tryz.underlying41 rfl (sz75 y) ?_)
                | (refine wpList_store_new _ rfl 41 _ _ rfl _ _ rfl rfl (sz75' y) (size75 y) (all75 y) ?_; try rw [hY])
                | (refine wpList_load_mid rfl 41 _ rfl wr.heap.size 0 rfl (pvC y) _ hRY Tryz.underlying41 rfl (sz75 y) ?_)
                | (go_at_call 58; refine hpre.mono ?_; rintro e w5 ⟨⟨A5, c5, rfl, hO5⟩, hb5⟩))
              obtain ⟨fs, hfs⟩ : ∃ fs, frmL y.es = fs := ⟨_, rfl⟩
              rw [hfs] at HFR hfy hO5 ⊢
              have HFW : Hid (∀ j ∈ fs, (Lit.int .i64 j).wf = true) := by
                show ∀ j ∈ fs, _
                intro j hj
                rw [← hfs] at hj
                have := frmL_range hj
                exact wf_i64 (by omega) (by omega)
              have hS5 := (OwnR.sr hO5).2.sl
              have hfar : ∀ q, A5.map (·.block) = some q → q ≠ V.heap.size := own_far hO5 (by omega)
              have HS5 := Lib.hid hS5
              have HFA := Lib.hid hfar
              have z5 := hb5.size
              have B5 : Below V.heap.size w4 w5 := hbw.trans ((BY.mono (by omega)).trans (hb5.mono (by omega)))
              have HM5 : Hid (SetI w5 V.heap.size 64 (fun j => aloneP l m k j ∧ j ∉ fs.take 0)) := (HMY.out.below_ hb5 (by omega)).congr fun j => by simp
              clear hfs hS5 hfar hO5 hpre HMY hRY hRy
              clear kVr B1r Bwr hbw BY kY hb5
              generalize wr.heap.size = sy at *
              clear zM zY hby
              go_loopw [60] (fun i WR => ∃ q : Nat, q ≤ fs.length ∧ i = .int .i64 q ∧ Hid (SetI WR V.heap.size 64 (fun j => aloneP l m k j ∧ j ∉ fs.take q)) ∧ Hid (Sl WR (.int .i64) A5 fs) ∧ Below V.heap.size w4 WR) (fun i _ => fs.length - (intOf i).toNat)
              case atStart => exact ⟨0, by omega, rfl, HM5.out, HS5.out, B5⟩
              case round =>
                obtain ⟨q, hq, rfl, HMq, HSq, hbq⟩ := hrel
                have zMq : V.heap.size < wr.heap.size := HMq.out.lt
                by_cases hqt : q < fs.length
                · obtain ⟨b6, off6, f, rfl, hb6, hf, hc6⟩ := HSq.out.at_ hqt
                  have i2 : (q : Int) < fs.length := by omega
                  have hT : Hid (fs.take (q + 1) = fs.take q ++ [f]) := take_snocG hf
                  have hrm := setRemove_any V.heap.size 64 _ f wr V.heap.size (Nat.le_refl _) HMq.out (HFW.out f (List.mem_of_getElem? hf))
                  clear hf
                  go_wp2_with (go_at_call 59; refine hrm.mono ?_; rintro e w6 ⟨rfl, hm6, hb6', hg6⟩)
                  go_roundw
                  case rel => exact ⟨q + 1, by omega, by go_num, hm6.congr (fun j => by rw [hT.out, List.mem_append, List.mem_singleton, not_or, and_assoc]), Sl.grownS HSq.out hg6 (fun _ g e e' => HFA.out g e' (by cases e; rfl)), hbq.trans hb6'⟩
                  case measure => simp [intOf]; omega
                · obtain rfl : q = fs.length := by omega
                  have HM7 : Hid (SetI wr V.heap.size 64 (aloneP l m (k + 1))) := HMq.out.congr fun j => by rw [aloneP_next hkm, HFR.out, List.take_length]
                  clear HMq hqt
                  go_wp2
                  go_roundw
                  case rel => exact ⟨k + 1, by omega, by go_num, HM7.out, hbq⟩
                  case measure => simp [intOf]; omega
          · obtain rfl : k = l.length := by omega
            have hlen := fun ty => HM.out.len (aloneL_asc l m) (fun j => aloneL_mem l m j) ty
            have ha256 := aloneL_len l m
            rw [HAA.out] at hlen ha256
            have q1 : wr.cell? ⟨w1.heap.size, 1, none⟩ = some (.int .i64 x.root) := (kVr.cell_ 1).trans (pvC_root x)
            have hR8 : wr.rangeAt w1.heap.size 2 (leavesL x.lv) := range8 x kVr.rangePV
            obtain ⟨r, hr⟩ : ∃ r : Nat, (if x.root = -1 then 0 else 1) = r := ⟨_, rfl⟩
            have hr1 : r ≤ 1 := by rw [← hr]; split <;> omega
            have HTB : Hid (tblN x = r + lvsN x.lv) := by show _ = _; unfold tblN; rw [hr]
            have zw1 : w1.heap.size < wr.heap.size := kVr.lt
            clear HM hlt kV4 HM4 HPX HPM HE
            by_cases hrt : x.root = -1
            all_goals
              first
                | (have hb1r : (x.root != -1) = false := by simpa using hrt)
                | (have hb1r : (x.root != -1) = true := by simpa using hrt)
              first | rw [if_pos hrt] at hr | rw [if_neg hrt] at hr
              subst hr
              clear hrt
              go_wp2_with (first
                | (refine wpList_load_mid rfl 36 _ rfl w1.heap.size 2 rfl (leavesL x.lv) _ hR8 Tryz.underlying36 rfl (sz8 HLV.out) ?_))
              go_loopw [78, 14] (fun i s WR => ∃ (q : Nat) (v : Int), q ≤ 8 ∧ i = .int .i64 q ∧ s = .int .i64 v ∧ Hid (v + (lvsN x.lv - lvsN (x.lv.take q) : Nat) = ((a + tblN x : Nat) : Int)) ∧ 0 ≤ v ∧ v ≤ 257 + q ∧ Below V.heap.size w4 WR) (fun i _ _ => 8 - (intOf i).toNat)
              case atStart => exact ⟨0, _, by omega, rfl, rfl, by show _ = _; rw [HTB.out]; simp [lvsN]; try omega, by omega, by omega, hbw⟩
              case round =>
                obtain ⟨q, v, hq, rfl, rfl, HV, v0, v1, hbq⟩ := hrel
                by_cases hqt : q < 8
                · obtain ⟨f, hf⟩ : ∃ f, x.lv[q]? = some f := ⟨_, List.getElem?_eq_getElem (by rw [HLV.out]; exact hqt)⟩
                  have hI := idx8 HLV.out hf
                  have i3 : (q : Int) < 8 := by omega
                  have hsn := lvsN_snoc (x.lv.take q) f
                  rw [← take_snocG hf] at hsn
                  have hle : lvsN (x.lv.take (q + 1)) ≤ lvsN x.lv := (List.Sublist.filter _ (List.take_sublist _ _)).length_le
                  have HSN := Lib.hid hsn
                  have HLE := Lib.hid hle
                  clear hf hsn hle
                  by_cases hf1 : f = -1
                  · have hbf : (f != -1) = false := by simpa using hf1
                    have HV2 : Hid (v + (lvsN x.lv - lvsN (x.lv.take (q + 1)) : Nat) = ((a + tblN x : Nat) : Int)) := by
                      have := HSN.out; rw [if_pos hf1] at this
                      show _ = _; rw [this, Nat.add_zero]; exact HV.out
                    clear HSN hf1
                    go_wp2
                    go_roundw
                    case rel => exact ⟨q + 1, v, by omega, by go_num, rfl, HV2.out, v0, by omega, hbq⟩
                    case measure => simp [intOf]; omega
                  · have hbf : (f != -1) = true := by simpa using hf1
                    have HV2 : Hid (v + 1 + (lvsN x.lv - lvsN (x.lv.take (q + 1)) : Nat) = ((a + tblN x : Nat) : Int)) := by
                      have h1 := HSN.out; rw [if_neg hf1] at h1
                      have h2 := HLE.out
                      have h3 := HV.out
                      show _ = _
                      omega
                    clear HSN hf1
                    go_wp2
                    go_roundw
                    case rel => exact ⟨q + 1, v + 1, by omega, by go_num, by go_num, HV2.out, by omega, by omega, hbq⟩
                    case measure => simp [intOf]; omega
                · obtain rfl : q = 8 := by omega
                  have HV2 : Hid (((a + tblN x : Nat) : Int) = v) := by
                    have h3 := HV.out
                    rw [List.take_of_length_le (by rw [HLV.out]; exact Nat.le_refl _)] at h3
                    show _ = _
                    omega
                  clear HV hqt
                  go_wp2
                  refine bodyPost_ret (v := .tuple #[.int .i64 v, .int .i64 0]) (by simp [results, Tryz.results31, go_sem]) rfl ?_
                  exact ⟨by rw [HV2.out], Bw4.trans (hbq.mono (by omega))⟩
  · have e1 : yldE l pr = scrE l := by unfold yldE; rw [if_neg h0]
    have e2 : yldI l pr = 0 := by unfold yldI; rw [e1, if_neg h0]
    rw [e1, e2]
    rw [if_neg h0] at hS
    generalize scrE l = z at *
    have hb : (z != 0) = true := by simpa using h0
    clear e1 e2 h0
    go_enter Tryz.func31, Tryz.ntmps31
    go_wp2_with fail
    refine hS.mono ?_
    rintro e w1 ⟨⟨A2, c2, rfl, _⟩, hb1⟩
    go_wp2
    refine bodyPost_ret (v := .tuple #[.int .i64 0, .int .i64 z]) (by simp [results, Tryz.results31, go_sem]) rfl ?_
    exact ⟨rfl, (by repeat' (first | with_reducible exact Below.refl _ _ | with_reducible assumption | with_reducible apply Below.drew | with_reducible apply below_drewN | with_reducible apply Below.alloc | with_reducible apply Below.setCell | (with_reducible refine Below.trans ?_ (Below.mono (by assumption) ?_)) | (simp; done) | (simp; omega) | omega | with_reducible apply le_size_alloc | with_reducible apply le_size_drewN | with_reducible apply le_size_drew | with_reducible apply le_size_setCell | refine Nat.le_trans ?_ (Below.size (by assumption))))⟩
end Go.Proofs.YtmbpjafiinfkkaaGreatDoor
