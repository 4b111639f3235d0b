/- Contracts of package readin: Shortest. -/
import Derived.Test.YtngenoblifhnpaaDoorRiQ
import Derived.Deep.LoopGhost
namespace Go.Proofs.YtngenoblifhnpaaDoor
open Go.RowKit Go.Maps

/-- The ways that follow a way. -/
def kids (r : RI) (p : List Int) (l : List Int) : List (RI × List Int) := l.map fun e => ((aftR r e 0).1, p ++ [e])
/-- The search, in so many rounds. -/
def bfsR : Nat → List (RI × List Int) → Option (List Int × Int)
  | 0, _ => none
  | _ + 1, [] => some ([], 9)
  | n + 1, (r, p) :: t =>
    if r.1 < 1 ∨ 8 < r.1 ∨ 100 < t.length ∨ 100 < p.length then none
    else if r.1 = 5 then some (p, 0)
    else bfsR n (t ++ kids r p (evsR r))
/-- Shortest. -/
def shtR (r : RI) : List Int × Int := if chkR r = 0 then shoR r else ([], chkR r)
theorem evs_mem {r : RI} {e : Int} (h : e ∈ evsR r) : 1 ≤ e ∧ e ≤ 6 := by
  have := (List.mem_filter.1 h).1
  simp at this
  omega
theorem evs_len (r : RI) : (evsR r).length ≤ 6 := List.length_filter_le _ [1, 2, 3, 4, 5, 6]
theorem kids_length (r : RI) (p : List Int) (l : List Int) : (kids r p l).length = l.length := by simp [kids]
theorem kids_snoc (r : RI) (p : List Int) (l : List Int) (e : Int) : kids r p (l ++ [e]) = kids r p l ++ [((aftR r e 0).1, p ++ [e])] := by simp [kids]
theorem chk_zero {s f g : Int} (h : chkR (s, f, g) = 0) : (1 ≤ s ∧ s ≤ 8) ∧ goodR (s, f, g) = true := by
  refine ⟨chk_state h, ?_⟩
  obtain ⟨h1, h8⟩ := chk_state h
  unfold chkR at h
  rw [if_neg (by show ¬(s < 1 ∨ 8 < s); omega)] at h
  split at h
  · cases h
  · split at h
    · assumption
    · cases h
theorem bfs_sho (s f g : Int) (h : chkR (s, f, g) = 0) : bfsR 12 [((s, f, g), [])] = some (shoR (s, f, g)) := by
  obtain ⟨⟨h1, h8⟩, hg⟩ := chk_zero h
  have hs : s = 1 ∨ s = 2 ∨ s = 3 ∨ s = 4 ∨ s = 5 ∨ s = 6 ∨ s = 7 ∨ s = 8 := by omega
  clear h h1 h8
  by_cases hm : g = -1
  · subst hm
    rcases hs with rfl | rfl | rfl | rfl | rfl | rfl | rfl | rfl <;> simp [goodR] at hg <;> (try subst hg) <;> simp [bfsR, kids, evsR, canR, aftR, shoR]
  · rcases hs with rfl | rfl | rfl | rfl | rfl | rfl | rfl | rfl <;> simp [goodR, hm] at hg <;> (try subst hg) <;> simp [bfsR, kids, evsR, canR, aftR, shoR, hm]

set_option maxRecDepth 100000 in
set_option maxHeartbeats 4000000 in
theorem Shortest_any (s f g : Int) (w : World) (hal : AL w) :
    Calls Tryd.prog 13 #[.agg #[.int .i64 s, .int .i64 f, .int .i64 g]] w (LsPost (shtR (s, f, g)).1 (shtR (s, f, g)).2 w) := by
  have HAL := Lib.hid hal
  clear hal
  obtain ⟨i0, hi0, hz0, hz1, hz2⟩ := info_parts intInfo
  obtain ⟨z, hz⟩ : ∃ z, chkR (s, f, g) = z := ⟨_, rfl⟩
  by_cases h0 : z = 0
  · subst h0
    obtain ⟨R, HE, HS⟩ : ∃ R, Hid (shtR (s, f, g) = R) ∧ Hid (bfsR 12 [((s, f, g), [])] = some R) := ⟨shoR (s, f, g), by show _ = _; unfold shtR; rw [if_pos hz], bfs_sho s f g hz⟩
    obtain ⟨h1, h8⟩ := chk_state hz
    have HZ := Lib.hid hz
    clear hz
    go_enter Tryd.func13, Tryd.ntmps13
    go_wp2_with fail
    refine (Check_any s f g _ HZ.out).mono ?_
    rintro e w1 ⟨rfl, hb1⟩
    have q0 : w1.cell? ⟨w.heap.size, 0, none⟩ = some (.int .i64 s) := cell_keep hb1 (by simp) (by simp)
    have q1 : w1.cell? ⟨w.heap.size, 1, none⟩ = some (.int .i64 f) := cell_keep hb1 (by simp) (by simp)
    have q2 : w1.cell? ⟨w.heap.size, 2, none⟩ = some (.int .i64 g) := cell_keep hb1 (by simp) (by simp)
    go_wp2_with fail
    go_loopg [5] 12 (fun k v wr => ∃ b off c q, v = .slice (some ⟨b, off, none⟩) q.length c ∧ Hid (QS wr b off c q) ∧ w.heap.size ≤ b ∧ Hid (bfsR k q = some R) ∧ Hid (Below w.heap.size w wr))
    case atStart =>
      have hz1 : w.heap.size ≤ w1.heap.size := by have := hb1.size; simp at this; omega
      refine ⟨w1.heap.size, 0, 1, [((s, f, g), [])], rfl, ?_, hz1, HS, ?_⟩
      · refine ⟨_, Blk.new_ rfl rfl, by simp, by simp, fun j r p e => ?_⟩
        have hj : j = 0 := by have := (List.getElem?_eq_some_iff.1 e).1; simp at this; exact this
        subst hj
        simp at e
        obtain ⟨rfl, rfl⟩ := e
        exact ⟨none, 0, rfl, rfl, rfl, rfl, AW.nil⟩
      · show Below _ _ _; exact (by repeat' (first | with_reducible exact Below.refl _ _ | with_reducible assumption | with_reducible apply Below.drew | with_reducible apply below_drewN | with_reducible apply Below.alloc | with_reducible apply Below.setCell | (with_reducible refine Below.trans ?_ (Below.mono (by assumption) ?_)) | (simp; done) | (simp; omega) | omega | with_reducible apply le_size_alloc | with_reducible apply le_size_drewN | with_reducible apply le_size_drew | with_reducible apply le_size_setCell | refine Nat.le_trans ?_ (Below.size (by assumption))))
    case round =>
      obtain ⟨b, off, c, q, rfl, HQ, hb, HB, HW⟩ := hrel
      cases q with
      | nil =>
        obtain rfl : R = ([], 9) := by
          have := HB.out
          cases gk with
          | zero => cases this
          | succ k => injection this with this; exact this.symm
        go_wp2_with fail
        go_ret2
        unfold LsPost
        rw [HE.out]
        exact ⟨none, 0, rfl, IW.nil, HW.out⟩
      | cons x t =>
        obtain ⟨⟨a, d, y⟩, p⟩ := x
        cases gk with
        | zero => have := HB.out; cases this
        | succ k =>
          obtain ⟨A1, d1, c0, c1, c2, c3, haw⟩ := HQ.out.head
          have HA := Lib.hid haw
          have hB := HB.out
          simp only [bfsR] at hB
          by_cases hbad : a < 1 ∨ 8 < a ∨ 100 < t.length ∨ 100 < p.length
          · rw [if_pos hbad] at hB; cases hB
          rw [if_neg hbad] at hB
          have a1 : 1 ≤ a := by omega
          have a8 : a ≤ 8 := by omega
          have t1 : t.length ≤ 100 := by omega
          have p1 : p.length ≤ 100 := by omega
          have hsf := run_sufQ b off c (t.length + 1) (by omega)
          have hqt := HQ.out.tail
          obtain ⟨off2, hoff2⟩ : ∃ o, (if c = 1 then off else off + 4) = o := ⟨_, rfl⟩
          rw [hoff2] at hsf hqt
          have HQ2 := Lib.hid hqt
          have hbl : b < wr.heap.size := HQ.out.lt
          have i1 : (0 : Int) < (t.length : Int) + 1 := by omega
          have i2 : ((t.length : Int) + 1 > 0) := by omega
          clear haw hbad hqt hoff2
          by_cases h5 : a = 5
          · subst h5
            rw [if_pos rfl] at hB
            injection hB with hB
            have HR := Lib.hid hB
            clear hB HB
            go_wp2_with fail
            go_ret2
            unfold LsPost
            rw [HE.out, ← HR.out]
            exact ⟨A1, d1, rfl, (HA.out.ext (by repeat' (first | with_reducible exact Below.refl _ _ | with_reducible assumption | with_reducible apply Below.drew | with_reducible apply below_drewN | with_reducible apply Below.alloc | with_reducible apply Below.setCell | (with_reducible refine Below.trans ?_ (Below.mono (by assumption) ?_)) | (simp; done) | (simp; omega) | omega | with_reducible apply le_size_alloc | with_reducible apply le_size_drewN | with_reducible apply le_size_drew | with_reducible apply le_size_setCell | refine Nat.le_trans ?_ (Below.size (by assumption))))).1, HW.out.trans ((show Below wr.heap.size wr _ from (by repeat' (first | with_reducible exact Below.refl _ _ | with_reducible assumption | with_reducible apply Below.drew | with_reducible apply below_drewN | with_reducible apply Below.alloc | with_reducible apply Below.setCell | (with_reducible refine Below.trans ?_ (Below.mono (by assumption) ?_)) | (simp; done) | (simp; omega) | omega | with_reducible apply le_size_alloc | with_reducible apply le_size_drewN | with_reducible apply le_size_drew | with_reducible apply le_size_setCell | refine Nat.le_trans ?_ (Below.size (by assumption))))).mono HW.out.size)⟩
          · have h5' : (a == 5) = false := by simpa using h5
            rw [if_neg h5] at hB
            obtain ⟨ev, hev⟩ : ∃ ev, evsR (a, d, y) = ev := ⟨_, rfl⟩
            have evl := evs_len (a, d, y)
            have EM : Hid (∀ x ∈ ev, 1 ≤ x ∧ x ≤ 6) := fun x hx => evs_mem (by rw [hev]; exact hx)
            rw [hev] at hB evl
            have HB2 := Lib.hid hB
            have HEV0 := Lib.hid hev
            clear hB HB h5 hev
            have hzw := HW.out.size
            go_wp2_with fail
            refine (events_n a d y _ (HAL.out.ext ((Below.mono HW.out (Nat.le_refl _)).trans ((show Below wr.heap.size wr _ from (by repeat' (first | with_reducible exact Below.refl _ _ | with_reducible assumption | with_reducible apply Below.drew | with_reducible apply below_drewN | with_reducible apply Below.alloc | with_reducible apply Below.setCell | (with_reducible refine Below.trans ?_ (Below.mono (by assumption) ?_)) | (simp; done) | (simp; omega) | omega | with_reducible apply le_size_alloc | with_reducible apply le_size_drewN | with_reducible apply le_size_drew | with_reducible apply le_size_setCell | refine Nat.le_trans ?_ (Below.size (by assumption))))).mono hzw))) a1 a8).mono ?_
            rw [HEV0.out]
            rintro e w2 ⟨A2, cE, rfl, hi, hb2⟩
            have hb2' : Below wr.heap.size wr w2 := (by repeat' (first | with_reducible exact Below.refl _ _ | with_reducible assumption | with_reducible apply Below.drew | with_reducible apply below_drewN | with_reducible apply Below.alloc | with_reducible apply Below.setCell | (with_reducible refine Below.trans ?_ (Below.mono (by assumption) ?_)) | (simp; done) | (simp; omega) | omega | with_reducible apply le_size_alloc | with_reducible apply le_size_drewN | with_reducible apply le_size_drew | with_reducible apply le_size_setCell | refine Nat.le_trans ?_ (Below.size (by assumption))))
            have HQ3 : Hid (QS w2 b off2 (c - 1) t) := HQ2.out.ext hb2'
            have HEV : Hid (AW w2 b A2 cE ev) := hi.aw (by simp; omega)
            have HBK : Hid (Blk w2 wr.heap.size 59 #[.int .i64 a, .int .i64 d, .int .i64 y, .slice A1 p.length d1]) := Blk.below_ (Blk.new_ rfl rfl) hb2 (by simp)
            have HP : Hid (AW w2 b A1 d1 p) := HA.out.ext hb2'
            have HW2 : Hid (Below w.heap.size w w2) := HW.out.trans (hb2'.mono hzw)
            clear hi hb2 hb2' c0 c1 c2 c3 hsf
            have hne0 : wr.heap.size ≠ b := by omega
            obtain ⟨wo, rfl⟩ : ∃ wo : World, wo = wr := ⟨_, rfl⟩
            go_wp2_with fail
            go_loopg [5, 39] ev.length (fun m v i wr => ∃ (j : Nat), j + m = ev.length ∧ i = .int .i64 j ∧ ∃ b' off' c', v = .slice (some ⟨b', off', none⟩) (t ++ kids (a, d, y) p (ev.take j)).length c' ∧ Hid (QS wr b' off' c' (t ++ kids (a, d, y) p (ev.take j))) ∧ w.heap.size ≤ b' ∧ Hid (AW wr b' A2 cE ev) ∧
              Hid (Blk wr wo.heap.size 59 #[.int .i64 a, .int .i64 d, .int .i64 y, .slice A1 p.length d1]) ∧ wo.heap.size ≠ b' ∧ Hid (AW wr b' A1 d1 p) ∧ Hid (Below w.heap.size w wr))
            case atStart => exact ⟨0, by omega, rfl, b, off2, c - 1, by simp [kids], by simpa [kids] using HQ3, hb, HEV, HBK, hne0, HP, HW2⟩
            case round =>
              obtain ⟨j, hj, rfl, b', off', c', rfl, HQ', hb', HEV', HBK', hne, HP', HW'⟩ := hrel
              have HJ := Lib.hid hj
              clear HQ3 HEV HBK hne0 HP HW2
              by_cases hlt : j < ev.length
              · obtain ⟨g2, o2, x, rfl, hgl, hx, hcx⟩ := HEV'.out.1.1.at_ hlt
                obtain ⟨x1, x6⟩ := EM.out x (List.mem_of_getElem? hx)
                obtain ⟨⟨⟨a', d', y'⟩, fl, mp⟩, hA⟩ : ∃ X, aftR (a, d, y) x 0 = X := ⟨_, rfl⟩
                obtain ⟨pp, hpp⟩ : ∃ pp, p ++ [x] = pp := ⟨_, rfl⟩
                have HPL : Hid (pp.length = p.length + 1) := by show _ = _; rw [← hpp]; simp
                obtain ⟨ql, hql⟩ : ∃ ql, t ++ kids (a, d, y) p (ev.take j) = ql := ⟨_, rfl⟩
                have HN : Hid (t ++ kids (a, d, y) p (ev.take (j + 1)) = ql ++ [((a', d', y'), pp)]) := by
                  show _ = _
                  rw [List.take_add_one, hx]
                  simp only [Option.toList_some]
                  rw [kids_snoc, ← List.append_assoc, hql, hA, hpp]
                have hqll : ql.length ≤ 10000 := by
                  rw [← hql, List.length_append, kids_length, List.length_take]
                  omega
                rw [hql] at HQ' ⊢
                have i3 : (j : Int) < ev.length := by omega
                have bq0 := HBK'.out.cell_ 0
                have bq1 := HBK'.out.cell_ 1
                have bq2 := HBK'.out.cell_ 2
                simp at bq0 bq1 bq2
                have HX := Lib.hid hx; have HAF := Lib.hid hA; have HPP := Lib.hid hpp
                have hbl' := HQ'.out.lt
                have hwol := HBK'.out.lt
                have hzr := HW'.out.size
                clear hx hA hpp hql hj
                go_wp2_with fail
                refine (after_any a d y x 0 _ x1 x6).mono ?_
                rw [HAF.out]
                rintro e w3 ⟨A3, cF, rfl, hi3, hb3⟩
                clear hi3 bq0 bq1 bq2 hcx
                have bk3 := HBK'.out.below_ hb3 hwol
                have bq3 := bk3.cell_ 3
                simp at bq3
                have hz3 := hb3.size
                have hwo3 := bk3.lt
                have hwo3n : wo.heap.size ≠ w3.heap.size := by omega
                go_wp2_with fail
                refine (CloneI_any A1 d1 p _ ?hs (by omega)).mono ?_
                case hs => exact Sl.ext (HP'.out.1.1.ext hb3) (by repeat' (first | with_reducible exact Below.refl _ _ | with_reducible assumption | with_reducible apply Below.drew | with_reducible apply below_drewN | with_reducible apply Below.alloc | with_reducible apply Below.setCell | (with_reducible refine Below.trans ?_ (Below.mono (by assumption) ?_)) | (simp; done) | (simp; omega) | omega | with_reducible apply le_size_alloc | with_reducible apply le_size_drewN | with_reducible apply le_size_drew | with_reducible apply le_size_setCell | refine Nat.le_trans ?_ (Below.size (by assumption))))
                rintro e w4 ⟨A4, cG, rfl, ho4, hb4⟩
                have HO4 : Hid (Own w4 (w3.heap.size + 1) 3 (.int .i64) (.slice A4 p.length cG) p) := by show Own _ _ _ _ _ _; simpa using ho4
                have bkS4 : Blk w4 w3.heap.size 23 #[.int .i64 a', .int .i64 d', .int .i64 y'] := Blk.below_ (Blk.new_ rfl rfl) hb4 (by simp)
                have hz4 : w3.heap.size + 1 ≤ w4.heap.size := by have := hb4.size; simpa using this
                clear ho4 bq3 bk3
                go_wp2_with (first | (at_builtin; refine wpList_appS' (mk := Value.int .i64) _ rfl (.tmp 53) (.tmp 55) _ rfl 3 i0 _ 8 Tryd.underlying32 hi0 hz0 hz1 hz2 rfl (w3.heap.size + 1) A4 cG p rfl ?_ _ 1 [x] (by simp) rfl (Sl.of_lit (t := 3) (xs := [x]) ?_) (int_one _) (by simp; omega) (by simp; omega) ?_ ?_; (exact HO4.out.below (by repeat' (first | with_reducible exact Below.refl _ _ | with_reducible assumption | with_reducible apply Below.drew | with_reducible apply below_drewN | with_reducible apply Below.alloc | with_reducible apply Below.setCell | (with_reducible refine Below.trans ?_ (Below.mono (by assumption) ?_)) | (simp; done) | (simp; omega) | omega | with_reducible apply le_size_alloc | with_reducible apply le_size_drewN | with_reducible apply le_size_drew | with_reducible apply le_size_setCell | refine Nat.le_trans ?_ (Below.size (by assumption))))); (exact (by repeat' (first | with_reducible assumption | (with_reducible refine Blk.new_ ?_ ?_ <;> first | (simp; done) | rfl) | with_reducible apply Blk.drew_ | with_reducible apply Blk.drewN_ | with_reducible apply Blk.alloc_ | with_reducible refine Blk.far_ ?_ ?_ _ | (with_reducible refine Blk.below_ ?_ (by assumption) ?_) | (simp; done) | (simp; omega) | omega | with_reducible apply le_size_alloc | with_reducible apply lt_size_alloc | with_reducible apply le_size_drewN | with_reducible apply le_size_drew | with_reducible apply le_size_setCell | refine Nat.lt_of_lt_of_le ?_ (Below.size (by assumption)) | refine Nat.le_trans ?_ (Below.size (by assumption))))); (simp; omega); intro A5 c5 w5 ho5 hb5; rw [HPP.out] at ho5 ⊢; have bkS5 := (bkS4.alloc_ _).below_ hb5 (by omega); have sq0 := bkS5.cell_ 0; have sq1 := bkS5.cell_ 1; have sq2 := bkS5.cell_ 2; simp at sq0 sq1 sq2; have HO5 := Lib.hid ho5; clear ho5) | (at_builtin; obtain ⟨V, hV⟩ : ∃ V, w5.alloc (.cells #[.int .i64 a', .int .i64 d', .int .i64 y', .slice A5 pp.length c5] 59) = V := ⟨_, rfl⟩; have hbV : Below wr.heap.size wr V := (by rw [← hV]; exact (by repeat' (first | with_reducible exact Below.refl _ _ | with_reducible assumption | with_reducible apply Below.drew | with_reducible apply below_drewN | with_reducible apply Below.alloc | with_reducible apply Below.setCell | (with_reducible refine Below.trans ?_ (Below.mono (by assumption) ?_)) | (simp; done) | (simp; omega) | omega | with_reducible apply le_size_alloc | with_reducible apply le_size_drewN | with_reducible apply le_size_drew | with_reducible apply le_size_setCell | refine Nat.le_trans ?_ (Below.size (by assumption))))); have hb5V : Below w5.heap.size w5 V := (by rw [← hV]; exact (by repeat' (first | with_reducible exact Below.refl _ _ | with_reducible assumption | with_reducible apply Below.drew | with_reducible apply below_drewN | with_reducible apply Below.alloc | with_reducible apply Below.setCell | (with_reducible refine Below.trans ?_ (Below.mono (by assumption) ?_)) | (simp; done) | (simp; omega) | omega | with_reducible apply le_size_alloc | with_reducible apply le_size_drewN | with_reducible apply le_size_drew | with_reducible apply le_size_setCell | refine Nat.le_trans ?_ (Below.size (by assumption))))); have bkV : Blk V w5.heap.size 59 (wayC (a', d', y') (.slice A5 pp.length c5)).toArray := (by rw [← hV]; exact Blk.new_ rfl rfl); have HAWV : Hid (AW V b' A5 c5 pp) := ((Own.iwn HO5.out (Nat.le_refl _)).ext hb5V).aw (by omega); have HQV : Hid (QS V b' off' c' ql) := HQ'.out.ext hbV; have hzV : V.heap.size = w5.heap.size + 1 := (by rw [← hV]; simp); have hz5 : w4.heap.size < w5.heap.size := (by have := hb5.size; simp at this; omega); rw [hV]; have HzV := Lib.hid hzV; clear hV hzV; refine wpList_appQ rfl (.tmp 57) (.tmp 61) rfl V b' off' c' ql.length ql rfl HQV.out w5.heap.size 1 (a', d', y') A5 c5 pp bkV HAWV.out hqll rfl rfl ?_; intro b2 off3 c2 w6 hq6 hk6 hor6; have HOR := Lib.hid hor6; have HQ6 := Lib.hid hq6; clear hor6 hq6))
                have hor6 := HOR.out
                have hzV := HzV.out
                have hVw := hbV.size
                have hz6 := hk6.size
                go_roundg (ev.length - (j + 1))
                case measure => have := HJ.out; omega
                case rel =>
                  refine ⟨j + 1, by omega, by go_num, b2, off3, c2, ?_, ?_, by omega, (HEV'.out.ext hbV).keep hk6 hor6, (HBK'.out.below_ hbV hwol).keep_ hk6 hne, by omega, (HP'.out.ext hbV).keep hk6 hor6, ?_⟩
                  · rw [HN.out]; simp
                  · rw [HN.out]; exact HQ6
                  · exact (HW'.out.trans (hbV.mono hzr)).grown hk6 (by omega) (fun k e => by injection e; omega)
              · obtain rfl : j = ev.length := by omega
                rw [List.take_length] at HQ' ⊢
                have i3 : ¬ ((ev.length : Int) < ev.length) := by omega
                go_wp2_with fail
                go_roundg k
                case measure => omega
                case rel => exact ⟨b', off', c', t ++ kids (a, d, y) p ev, by simp, HQ', hb', HB2, HW'⟩
  · have HE : Hid (shtR (s, f, g) = ([], z)) := by show _ = _; unfold shtR; rw [if_neg (by rw [hz]; exact h0), hz]
    have nz : (z != 0) = true := by simpa using h0
    have HZ := Lib.hid hz
    clear hz
    go_enter Tryd.func13, Tryd.ntmps13
    go_wp2_with fail
    refine (Check_any s f g _ HZ.out).mono ?_
    rintro e w1 ⟨rfl, hb1⟩
    go_wp2_with fail
    go_ret2
    unfold LsPost
    rw [HE.out]
    exact ⟨none, 0, rfl, IW.nil, (by repeat' (first | with_reducible exact Below.refl _ _ | with_reducible assumption | with_reducible apply Below.drew | with_reducible apply below_drewN | with_reducible apply Below.alloc | with_reducible apply Below.setCell | (with_reducible refine Below.trans ?_ (Below.mono (by assumption) ?_)) | (simp; done) | (simp; omega) | omega | with_reducible apply le_size_alloc | with_reducible apply le_size_drewN | with_reducible apply le_size_drew | with_reducible apply le_size_setCell | refine Nat.le_trans ?_ (Below.size (by assumption))))⟩
end Go.Proofs.YtngenoblifhnpaaDoor
