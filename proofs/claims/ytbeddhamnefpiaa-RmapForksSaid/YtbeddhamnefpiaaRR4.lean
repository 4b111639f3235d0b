/- headgateref25: Counts, Exit, Fork. Written by gen_rr4.py. -/
import Derived.Test.YtbeddhamnefpiaaRR3
import Derived.Test.YtbeddhamnefpiaaAppI
namespace Go.Proofs.Ytbeddhamnefpiaa
set_option linter.unusedSimpArgs false
set_option linter.unusedVariables false
open Go.RowKit Go.Maps

def cntP (l : List M3) (k : Nat) : List Int := (List.range k).map fun f : Nat => cntM l f
theorem cntP_succ (l : List M3) (k : Nat) : cntP l (k + 1) = cntP l k ++ [cntM l k] := by simp [cntP, List.range_succ]
theorem cntP_len (l : List M3) (k : Nat) : (cntP l k).length = k := by simp [cntP]
def freP (l : List M3) (n : Int) (k : Nat) : List Int := ((List.range k).map (fun f : Nat => (f : Int))).filter fun f => decide (0 < cntM l f) && decide (cntM (keptM l n) f = 0)
theorem freP_succ (l : List M3) (n : Int) (k : Nat) : freP l n (k + 1) = freP l n k ++ if (decide (0 < cntM l k) && decide (cntM (keptM l n) k = 0)) = true then [(k : Int)] else [] := by
  unfold freP
  rw [List.range_succ, List.map_append, List.filter_append]
  congr 1
  simp only [List.map_cons, List.map_nil, List.filter_cons, List.filter_nil]
theorem freP_len (l : List M3) (n : Int) (k : Nat) : (freP l n k).length ≤ k := by
  unfold freP
  refine Nat.le_trans (List.length_filter_le _ _) ?_
  simp
theorem keptM_len (l : List M3) (n : Int) : (keptM l n).length ≤ l.length := List.length_filter_le _ _
/-- A list of what put hands back. -/
def PutF (M : List M3) (v : Value) (w : World) : Prop := ∃ A c, v = .slice A M.length c ∧ CR mapE w A c M
theorem PutF.lasts (M : List M3) : (Fct.has (PutF M)).lasts := fun _ _ _ ⟨A, c, e, h⟩ hb => ⟨A, c, e, h.ext hb⟩

set_option maxRecDepth 100000 in
set_option maxHeartbeats 2000000 in
theorem RCounts_any (A : Option Addr) (cc : Nat) (l : List M3) (w : World) (ha : CR mapE w A cc l) (la : l.length ≤ 1000) :
    Calls Try.prog 19 #[.slice A l.length cc] w (CnsPost (cnsM l) w) := by
  have HS := Lib.hid ha
  clear ha
  obtain ⟨i0, hi0, hz0, hz1, hz2⟩ := info_parts intInfo
  obtain ⟨⟨y, n⟩, hk⟩ : ∃ r, chkM l = r := ⟨_, rfl⟩
  have HK := Lib.hid hk
  by_cases y0 : y = 0
  · subst y0
    have HR : Hid (cnsM l = (cntP l 256, 0)) := by show _ = _; unfold cnsM; rw [hk, if_neg (by simp)]; rfl
    clear hk
    go_enter Try.func19, Try.ntmps19
    go_wp2_with (first | (go_at_call 13; refine (RCheck_any A cc l _ HS.out la HK.out).mono ?_; rintro e w1 ⟨rfl, hb1⟩; have z1 := hb1.size))
    go_loopw [6, 7] (fun v i wr => ∃ (k : Nat) (xs : List Int) (A2 : Option Addr) (c2 : Nat), k ≤ 256 ∧ i = .int .i64 k ∧ v = .slice A2 xs.length c2 ∧ Hid (cntP l k = xs) ∧ Hid (xs.length = k) ∧ Hid (Own wr w1.heap.size 3 (.int .i64) (.slice A2 xs.length c2) xs) ∧ Below w1.heap.size w1 wr) (fun _ i _ => 256 - (intOf i).toNat)
    case atStart => exact ⟨0, [], none, 0, by omega, rfl, rfl, by show _ = _; simp [cntP], rfl, World.ownsRow_nil _ _ _ _, Below.refl _ _⟩
    case round =>
      obtain ⟨k, xs, A2, c2, hk, rfl, rfl, HX, hxl, HO, hbw⟩ := hrel
      have hxl2 : xs.length ≤ 256 := by rw [hxl.out]; omega
      by_cases hk' : k < 256
      · have i1 : (k : Int) < 256 := by omega
        obtain ⟨z, hz⟩ : ∃ z, cntM l k = z := ⟨_, rfl⟩
        have HN : Hid (cntP l (k + 1) = xs ++ [z]) := by show _ = _; rw [cntP_succ, HX.out, hz]
        have HZ := Lib.hid hz
        clear hz
        go_wp2_with (first | (go_at_call 51; refine (rcount_any A cc l (k : Int) _ ((HS.out.1.ext hb1).ext hbw) (by omega) HZ.out).mono ?_; rintro e w2 ⟨rfl, hb2⟩; have hbw2 := hbw.trans (hb2.mono hbw.size)) | (at_builtin; refine wpList_appS' (mk := Value.int .i64) _ rfl (.tmp 20) (.tmp 24) _ rfl 3 i0 _ 8 Try.underlying35 hi0 hz0 hz1 hz2 rfl w1.heap.size A2 c2 xs rfl ?_ _ 1 [z] (by simp) rfl (Sl.of_lit (t := 3) (xs := [z]) ?_) (int_one _) (by simp; omega) (by simp; omega) ?_ ?_; (exact HO.out.below (hb2.trans (((Below.refl _ w2).alloc (Nat.le_refl _) _).mono hb2.size))); (exact Blk.new_ rfl rfl); (exact Nat.le_trans hbw2.size (by simp)); intro A4 c4 w4 ho4 hb4))
        go_roundw
        case rel =>
          refine ⟨k + 1, xs ++ [z], A4, c4, by omega, by go_num, by simp, HN.out, by show _ = _; simp; exact hxl.out, ho4, ?_⟩
          exact (hbw2.alloc hbw2.size _).trans hb4
        case measure => simp [intOf]; omega
      · obtain rfl : k = 256 := by omega
        obtain ⟨A', c', e', hsl⟩ := HO.out.sl
        injection e' with e1 e2 e3
        subst e1 e3
        have HSL := Lib.hid hsl
        clear hsl e2
        rw [HX.out] at HR
        go_wp2_with fail
        refine bodyPost_ret (v := .tuple #[.slice A2 xs.length c2, .int .i64 0]) (by simp [results, Try.results19, go_sem]) rfl ?_
        unfold CnsPost
        rw [HR.out]
        exact ⟨A2, c2, rfl, HSL.out, hb1.trans (hbw.mono z1)⟩
  · have HR : Hid (cnsM l = ([], y)) := by show _ = _; unfold cnsM; rw [hk, if_pos y0]
    have yb : (y != 0) = true := by simpa using y0
    clear hk
    go_enter Try.func19, Try.ntmps19
    go_wp2_with (first | (go_at_call 13; refine (RCheck_any A cc l _ HS.out la HK.out).mono ?_; rintro e w1 ⟨rfl, hb1⟩; have z1 := hb1.size))
    refine bodyPost_ret (v := .tuple #[.slice none 0 0, .int .i64 y]) (by simp [results, Try.results19, go_sem]) rfl ?_
    unfold CnsPost
    rw [HR.out]
    exact ⟨none, 0, rfl, Sl.nil, hb1⟩

set_option maxRecDepth 100000 in
set_option maxHeartbeats 2000000 in
theorem RExit_any (A : Option Addr) (cc : Nat) (l : List M3) (n : Int) (w : World) (ha : CR mapE w A cc l) (la : l.length ≤ 1000) :
    Calls Try.prog 24 #[.slice A l.length cc, .int .i64 n] w (ExtPost (extM l n) w) := by
  have HS := Lib.hid ha
  clear ha
  obtain ⟨i0, hi0, hz0, hz1, hz2⟩ := info_parts intInfo
  obtain ⟨⟨y, n'⟩, hk⟩ : ∃ r, chkM l = r := ⟨_, rfl⟩
  have HK := Lib.hid hk
  by_cases y0 : y = 0
  · subst y0
    cases d1 : decide (1 ≤ n ∧ n ≤ 8) with
    | false =>
      have HR : Hid (extM l n = ([], [], 2)) := by show _ = _; unfold extM; rw [hk, if_neg (by simp), if_neg (by unfold okN; rw [d1]; simp)]
      clear hk
      go_enter Try.func24, Try.ntmps24
      go_wp2_with (first | (go_at_call 13; refine (RCheck_any A cc l _ HS.out la HK.out).mono ?_; rintro e w1 ⟨rfl, hb1⟩; have z1 := hb1.size) | (go_at_call 54; refine (proc_b n _ d1 _).mono ?_; rintro e w' ⟨rfl, rfl⟩))
      refine bodyPost_ret (v := .tuple #[.slice none 0 0, .slice none 0 0, .int .i64 2]) (by simp [results, Try.results24, go_sem]) rfl ?_
      unfold ExtPost
      rw [HR.out]
      exact ⟨none, 0, none, 0, rfl, CR.nil, Sl.nil, hb1⟩
    | true =>
      have HR : Hid (extM l n = (keptM l n, freP l n 256, 0)) := by show _ = _; unfold extM; rw [hk, if_neg (by simp), if_pos (by unfold okN; rw [d1])]; rfl
      clear hk
      go_enter Try.func24, Try.ntmps24
      go_wp2_with (first | (go_at_call 13; refine (RCheck_any A cc l _ HS.out la HK.out).mono ?_; rintro e w1 ⟨rfl, hb1⟩; have z1 := hb1.size) | (go_at_call 54; refine (proc_b n _ d1 _).mono ?_; rintro e w' ⟨rfl, rfl⟩))
      go_loopw [9, 10] (fun v i wr => ∃ (k : Nat) (ys : List M3) (A2 : Option Addr) (c2 : Nat), k ≤ l.length ∧ i = .int .i64 k ∧ v = .slice A2 ys.length c2 ∧ Hid (keptM (l.take k) n = ys) ∧ ys.length ≤ k ∧ CanR mapE wr w.heap.size A2 c2 ys ∧ Below w.heap.size w wr) (fun _ i _ => l.length - (intOf i).toNat)
      case atStart => exact ⟨0, [], none, 0, by omega, rfl, rfl, by show _ = _; simp [keptM], by simp, .inl ⟨rfl, SR.nil⟩, hb1⟩
      case round =>
        obtain ⟨k, ys, A2, c2, hk, rfl, rfl, HY, hyl, hcan, hbw⟩ := hrel
        have zw := hbw.size
        by_cases hlt : k < l.length
        · obtain ⟨bb, off, x, rfl, hbl, hx, q0, q1, q2⟩ := map_at (HS.out.1.ext hbw) hlt
          have i1 : (k : Int) < l.length := by omega
          have HN : Hid (keptM (l.take (k + 1)) n = ys ++ if x.2.1 = n then [] else [x]) := by
            show _ = _
            rw [take_snoc hx, keptM_snoc, HY.out]
          clear hx HY
          by_cases e : x.2.1 = n
          · have HM : Hid (keptM (l.take (k + 1)) n = ys) := by show _ = _; rw [HN.out, if_pos e]; simp
            clear HN
            have eb : (x.2.1 != n) = false := by simpa using e
            clear e
            go_wp2
            go_roundw
            case rel => exact ⟨k + 1, ys, A2, c2, by omega, by go_num, rfl, HM.out, by omega, hcan, hbw⟩
            case measure => simp [intOf]; omega
          · have HM : Hid (keptM (l.take (k + 1)) n = ys ++ [x]) := by show _ = _; rw [HN.out, if_neg e]
            clear HN
            have eb : (x.2.1 != n) = true := by simpa using e
            clear e
            go_wp2_with (at_builtin; refine wpList_appR mapE rfl (.tmp 38) (.tmp 43) _ rfl rfl _ w.heap.size (by simp; omega) A2 c2 _ ys rfl (hcan.ext ((Below.refl _ wr).alloc (Nat.le_refl _) _)) (some ⟨wr.heap.size, 0, none⟩) 1 1 [x] rfl (SR.of_blk (E := mapE) (l := [x]) (t := 59) (Blk.new_ (by simp) rfl)) (by simp; omega) rfl rfl ?_; intro A5 c5 w5 hc5 hb5 _)
            go_roundw
            case rel => exact ⟨k + 1, ys ++ [x], A5, c5, by omega, by go_num, by simp, HM.out, by simp; omega, hc5, (hbw.alloc zw _).trans hb5⟩
            case measure => simp [intOf]; omega
        · have hd : l.take k = l := List.take_of_length_le (by omega)
          rw [hd] at HY
          obtain ⟨wo, rfl⟩ : ∃ wo, wo = wr := ⟨_, rfl⟩
          have HC2 := Lib.hid hcan.cr
          have hyl2 : ys.length ≤ 5000 := by omega
          have HF : Hid (∀ k : Nat, freP l n (k + 1) = freP l n k ++ if (decide (0 < cntM l k) && decide (cntM ys k = 0)) = true then [(k : Int)] else []) := by
            show ∀ _, _
            intro k
            rw [freP_succ, HY.out]
          clear hd hcan
          go_wp2_with fail
          go_loopw [11, 12] (fun v i wq => ∃ (j : Nat) (xs : List Int) (A3 : Option Addr) (c3 : Nat), j ≤ 256 ∧ i = .int .i64 j ∧ v = .slice A3 xs.length c3 ∧ Hid (freP l n j = xs) ∧ xs.length ≤ j ∧ Hid (Own wq wo.heap.size 3 (.int .i64) (.slice A3 xs.length c3) xs) ∧ Below wo.heap.size wo wq) (fun _ i _ => 256 - (intOf i).toNat)
          case atStart => exact ⟨0, [], none, 0, by omega, rfl, rfl, by show _ = _; simp [freP], by simp, World.ownsRow_nil _ _ _ _, Below.refl _ _⟩
          case round =>
            obtain ⟨j, xs, A3, c3, hj, rfl, rfl, HX, hxl, HO, hbq⟩ := hrel
            have zq := hbq.size
            by_cases hj' : j < 256
            · have i1 : (j : Int) < 256 := by omega
              obtain ⟨z, hz⟩ : ∃ z, cntM l j = z := ⟨_, rfl⟩
              obtain ⟨z', hz'⟩ : ∃ z', cntM ys j = z' := ⟨_, rfl⟩
              have HN := HF.out j
              rw [hz, hz', HX.out] at HN
              have HZ := Lib.hid hz
              have HZ' := Lib.hid hz'
              have HN := Lib.hid HN
              have HSQ : Hid (SR mapE wr A l) := (HS.out.1.ext hbw).ext hbq
              have HCQ : Hid (SR mapE wr A2 ys) := HC2.out.1.ext hbq
              have la5 : l.length ≤ 5000 := by omega
              clear hz hz'
              cases p1 : decide (0 < z) with
              | false =>
                have HM : Hid (freP l n (j + 1) = xs) := by show _ = _; rw [HN.out, p1]; simp
                clear HN
                go_wp2_with (first | (go_at_call 51; with_reducible refine (rcount_any A cc l (j : Int) _ HSQ.out la5 HZ.out).mono ?_; rintro e w2 ⟨rfl, hb2⟩))
                go_roundw
                case rel => exact ⟨j + 1, xs, A3, c3, by omega, by go_num, rfl, HM.out, by omega, HO.out.below hb2, hbq.trans (hb2.mono zq)⟩
                case measure => simp [intOf]; omega
              | true =>
                cases p2 : (z' == 0) with
                | false =>
                  have HM : Hid (freP l n (j + 1) = xs) := by
                    show _ = _
                    rw [HN.out, p1, if_neg (by simpa using p2)]; simp
                  clear HN
                  go_wp2_with (first | (go_at_call 51; with_reducible refine (rcount_any A cc l (j : Int) _ HSQ.out la5 HZ.out).mono ?_; rintro e w2 ⟨rfl, hb2⟩; have hbq2 := hbq.trans (hb2.mono zq)) | (go_at_call 51; with_reducible refine (rcount_any A2 c2 ys (j : Int) _ (HCQ.out.ext hb2) hyl2 HZ'.out).mono ?_; rintro e w3 ⟨rfl, hb3⟩; have hbq3 := hbq2.trans (hb3.mono hbq2.size)))
                  go_roundw
                  case rel => exact ⟨j + 1, xs, A3, c3, by omega, by go_num, rfl, HM.out, by omega, (HO.out.below hb2).below hb3, hbq3⟩
                  case measure => simp [intOf]; omega
                | true =>
                  have HM : Hid (freP l n (j + 1) = xs ++ [(j : Int)]) := by
                    show _ = _
                    rw [HN.out, p1, if_pos (by simpa using p2)]
                  clear HN
                  go_wp2_with (first | (go_at_call 51; with_reducible refine (rcount_any A cc l (j : Int) _ HSQ.out la5 HZ.out).mono ?_; rintro e w2 ⟨rfl, hb2⟩; have hbq2 := hbq.trans (hb2.mono zq)) | (go_at_call 51; with_reducible refine (rcount_any A2 c2 ys (j : Int) _ (HCQ.out.ext hb2) hyl2 HZ'.out).mono ?_; rintro e w3 ⟨rfl, hb3⟩; have hbq3 := hbq2.trans (hb3.mono hbq2.size)) | (at_builtin; refine wpList_appS' (mk := Value.int .i64) _ rfl (.tmp 59) (.tmp 61) _ rfl 3 i0 _ 8 Try.underlying35 hi0 hz0 hz1 hz2 rfl wo.heap.size A3 c3 xs rfl ?_ _ 1 [(j : Int)] (by simp) rfl (Sl.of_lit (t := 3) (xs := [(j : Int)]) ?_) (int_one _) (by simp; omega) (by simp; omega) ?_ ?_; (exact (HO.out.below hb2).below (hb3.trans (((Below.refl _ w3).alloc (Nat.le_refl _) _).mono hb3.size))); (exact Blk.new_ rfl rfl); (exact Nat.le_trans hbq3.size (by simp)); intro A4 c4 w4 ho4 hb4))
                  go_roundw
                  case rel => exact ⟨j + 1, xs ++ [(j : Int)], A4, c4, by omega, by go_num, by simp, HM.out, by simp; omega, ho4, (hbq3.alloc hbq3.size _).trans hb4⟩
                  case measure => simp [intOf]; omega
            · obtain rfl : j = 256 := by omega
              obtain ⟨A', c', e', hsl⟩ := HO.out.sl
              injection e' with e1 e2 e3
              subst e1 e3
              have HSL := Lib.hid hsl
              clear hsl e2
              rw [HX.out, HY.out] at HR
              go_wp2_with fail
              refine bodyPost_ret (v := .tuple #[.slice A2 ys.length c2, .slice A3 xs.length c3, .int .i64 0]) (by simp [results, Try.results24, go_sem]) rfl ?_
              unfold ExtPost
              rw [HR.out]
              exact ⟨A2, c2, A3, c3, rfl, HC2.out.ext hbq, HSL.out, hbw.trans (hbq.mono zw)⟩
  · have HR : Hid (extM l n = ([], [], y)) := by show _ = _; unfold extM; rw [hk, if_pos y0]
    have yb : (y != 0) = true := by simpa using y0
    clear hk
    go_enter Try.func24, Try.ntmps24
    go_wp2_with (first | (go_at_call 13; refine (RCheck_any A cc l _ HS.out la HK.out).mono ?_; rintro e w1 ⟨rfl, hb1⟩; have z1 := hb1.size))
    refine bodyPost_ret (v := .tuple #[.slice none 0 0, .slice none 0 0, .int .i64 y]) (by simp [results, Try.results24, go_sem]) rfl ?_
    unfold ExtPost
    rw [HR.out]
    exact ⟨none, 0, none, 0, rfl, CR.nil, Sl.nil, hb1⟩

set_option maxRecDepth 100000 in
set_option maxHeartbeats 2000000 in
theorem RFork_any (A : Option Addr) (cc : Nat) (l : List M3) (n c : Int) (w : World) (ha : CR mapE w A cc l) (la : l.length ≤ 1000) :
    Calls Try.prog 26 #[.slice A l.length cc, .int .i64 n, .int .i64 c] w (LePost (frkM l n c) w) := by
  have HS := Lib.hid ha
  clear ha
  obtain ⟨⟨y, n'⟩, hk⟩ : ∃ r, chkM l = r := ⟨_, rfl⟩
  have HK := Lib.hid hk
  by_cases y0 : y = 0
  · subst y0
    cases d1 : decide (1 ≤ n ∧ n ≤ 8) with
    | false =>
      have HR : Hid (frkM l n c = ([], 2)) := by show _ = _; unfold frkM; rw [hk, if_neg (by simp), if_neg (by unfold okN; rw [d1]; simp)]
      clear hk
      go_enter Try.func26, Try.ntmps26
      go_wp2_with (first | (go_at_call 13; refine (RCheck_any A cc l _ HS.out la HK.out).mono ?_; rintro e w1 ⟨rfl, hb1⟩; have z1 := hb1.size) | (go_at_call 54; (first | with_reducible refine (proc_b n _ d1 _).mono ?_ | with_reducible refine (proc_b c _ d2 _).mono ?_); rintro e w' ⟨rfl, rfl⟩))
      refine bodyPost_ret (v := .tuple #[.slice none 0 0, .int .i64 2]) (by simp [results, Try.results26, go_sem]) rfl ?_
      exact LePost.bad HR.out hb1
    | true =>
      cases d2 : decide (1 ≤ c ∧ c ≤ 8) with
      | false =>
        have HR : Hid (frkM l n c = ([], 2)) := by show _ = _; unfold frkM; rw [hk, if_neg (by simp), if_neg (by unfold okN; rw [d1, d2]; simp)]
        clear hk
        go_enter Try.func26, Try.ntmps26
        go_wp2_with (first | (go_at_call 13; refine (RCheck_any A cc l _ HS.out la HK.out).mono ?_; rintro e w1 ⟨rfl, hb1⟩; have z1 := hb1.size) | (go_at_call 54; (first | with_reducible refine (proc_b n _ d1 _).mono ?_ | with_reducible refine (proc_b c _ d2 _).mono ?_); rintro e w' ⟨rfl, rfl⟩))
        refine bodyPost_ret (v := .tuple #[.slice none 0 0, .int .i64 2]) (by simp [results, Try.results26, go_sem]) rfl ?_
        exact LePost.bad HR.out hb1
      | true =>
        by_cases d3 : n = c
        · have HR : Hid (frkM l n c = ([], 2)) := by show _ = _; unfold frkM; rw [hk, if_neg (by simp), if_neg (by simp [d3])]
          have d3b : (n == c) = true := by simpa using d3
          clear d3
          clear hk
          go_enter Try.func26, Try.ntmps26
          go_wp2_with (first | (go_at_call 13; refine (RCheck_any A cc l _ HS.out la HK.out).mono ?_; rintro e w1 ⟨rfl, hb1⟩; have z1 := hb1.size) | (go_at_call 54; (first | with_reducible refine (proc_b n _ d1 _).mono ?_ | with_reducible refine (proc_b c _ d2 _).mono ?_); rintro e w' ⟨rfl, rfl⟩))
          refine bodyPost_ret (v := .tuple #[.slice none 0 0, .int .i64 2]) (by simp [results, Try.results26, go_sem]) rfl ?_
          exact LePost.bad HR.out hb1
        · have hok5 : (okN n && (okN c && decide (n ≠ c))) = true := by unfold okN; rw [d1, d2]; simpa using d3
          have d3b : (n == c) = false := by simpa using d3
          have HR7 : Hid (l.any (fun m => decide (m.2.1 = c)) = true → frkM l n c = ([], 7)) := by show _ → _; intro hf; unfold frkM; rw [hk, if_neg (by simp), if_pos hok5, if_pos hf]
          have HR0 : Hid (l.any (fun m => decide (m.2.1 = c)) = false → frkM l n c = ((addsF l n c).foldl putM l, 0)) := by show _ → _; intro hf; unfold frkM; rw [hk, if_neg (by simp), if_pos hok5, hf, frkL_eq]; rfl
          have D3 := Lib.hid d3
          clear hk d3 hok5
          go_enter Try.func26, Try.ntmps26
          go_wp2_with (first | (go_at_call 13; refine (RCheck_any A cc l _ HS.out la HK.out).mono ?_; rintro e w1 ⟨rfl, hb1⟩; have z1 := hb1.size) | (go_at_call 54; (first | with_reducible refine (proc_b n _ d1 _).mono ?_ | with_reducible refine (proc_b c _ d2 _).mono ?_); rintro e w' ⟨rfl, rfl⟩) | (at_builtin; refine wpList_appR mapE rfl (.tmp 33) (.tmp 34) _ rfl rfl _ w.heap.size (by simp; omega) _ 0 0 [] rfl (.inl ⟨rfl, SR.nil⟩) A cc l.length l rfl ((HS.out.1.ext hb1).ext ((Below.refl _ w1).alloc (Nat.le_refl _) _)) (by simp; omega) rfl rfl ?_; intro A3 c3 w3 hc3 hb3 _; rw [List.nil_append] at hc3 ⊢; have hb13 : Below w.heap.size w w3 := (hb1.alloc z1 _).trans hb3))
          go_loopw [10, 11] (fun v i wr => ∃ (k : Nat) (ys : List M3) (A2 : Option Addr) (c2 : Nat), k ≤ l.length ∧ i = .int .i64 k ∧ v = .slice A2 ys.length c2 ∧ Hid ((addsF (l.take k) n c).foldl putM l = ys) ∧ Hid (∀ m ∈ l.take k, m.2.1 ≠ c) ∧ ys.length ≤ l.length + k ∧ Hid (CR mapE wr A2 c2 ys) ∧ Below w.heap.size w wr) (fun _ i _ => l.length - (intOf i).toNat)
          case atStart => exact ⟨0, l, A3, c3, by omega, rfl, rfl, by show _ = _; simp [addsF], by show ∀ m ∈ _, _; simp, by omega, hc3.cr, hb13⟩
          case round =>
            obtain ⟨k, ys, A2, c2, hk, rfl, rfl, HY, HNC, hyl, HO, hbr⟩ := hrel
            have zw := hbr.size
            by_cases hlt : k < l.length
            · obtain ⟨bb, off, x, rfl, hbl, hx, q0, q1, q2⟩ := map_at (HS.out.1.ext hbr) hlt
              have i1 : (k : Int) < l.length := by omega
              by_cases e : x.2.1 = c
              · have hf : l.any (fun m => decide (m.2.1 = c)) = true := List.any_eq_true.2 ⟨x, List.mem_of_getElem? hx, by simpa using e⟩
                have HR := Lib.hid (HR7.out hf)
                have eb : (x.2.1 == c) = true := by simpa using e
                clear e hx hf
                go_wp2
                refine bodyPost_ret (v := .tuple #[.slice none 0 0, .int .i64 7]) (by simp [results, Try.results26, go_sem]) rfl ?_
                exact LePost.bad HR.out hbr
              · have HNE : Hid (∀ m ∈ l.take (k + 1), m.2.1 ≠ c) := by
                  show ∀ m ∈ _, _
                  rw [take_snoc hx]
                  intro m hm
                  rcases List.mem_append.1 hm with h | h
                  · exact HNC.out m h
                  · simp at h; subst h; exact e
                have HN : Hid (addsF (l.take (k + 1)) n c = addsF (l.take k) n c ++ if x.2.1 = n then [(x.1, c, x.2.2)] else []) := by show _ = _; rw [take_snoc hx, addsF_snoc]
                have eb : (x.2.1 == c) = false := by simpa using e
                clear e hx
                by_cases e2 : x.2.1 = n
                · obtain ⟨M, hM⟩ : ∃ M, putM ys (x.1, c, x.2.2) = M := ⟨_, rfl⟩
                  have hMl : M.length = ys.length + 1 := by rw [← hM, putM_len]
                  have HM : Hid ((addsF (l.take (k + 1)) n c).foldl putM l = M) := by show _ = _; rw [HN.out, if_pos e2, List.foldl_append, HY.out, ← hM]; rfl
                  have HMM := Lib.hid hM
                  have e2b : (x.2.1 == n) = true := by simpa using e2
                  have HML := Lib.hid hMl
                  clear hM HN e2 hMl
                  go_wp2_with fail
                  refine wp_region_chain [.is ?ff0, .is ?ff1, .is ?ff2, .is ?ff3, .is ?ff4, .is ?ff5, .is ?ff6, .is ?ff7, .is ?ff8, .is ?ff9, .is ?ff10, .is ?ff11, .is ?ff12, .is ?ff13, .is ?ff14, .has (PutF M), .has (PutF M)] (by kernel_rfl) (by kernel_rfl) (by kernel_rfl) (lasts_is (lasts_is (lasts_is (lasts_is (lasts_is (lasts_is (lasts_is (lasts_is (lasts_is (lasts_is (lasts_is (lasts_is (lasts_is (lasts_is (lasts_is (lasts_has (PutF.lasts M) (lasts_has (PutF.lasts M) lasts_nil))))))))))))))))) (fun W0 hb0 hz0 => ?_)
                  rotate_left 15
                  refine chain_is (step_take (by rfl) ?yf0) ?rf0
                  case yf0 =>
                    intro w hbw hd
                    clear hd
                    go_simp
                    first | done | with_reducible rfl
                  (try simp only [Act.put, List.setIfInBounds_toArray, List.set_cons_zero, List.set_cons_succ, List.nil_append, List.cons_append])
                  refine chain_is (step_take (by rfl) ?yf1) ?rf1
                  case yf1 =>
                    intro w hbw hd
                    clear hd
                    go_simp
                    first | done | with_reducible rfl
                  (try simp only [Act.put, List.setIfInBounds_toArray, List.set_cons_zero, List.set_cons_succ, List.nil_append, List.cons_append])
                  refine chain_is (step_take (by rfl) ?yf2) ?rf2
                  case yf2 =>
                    intro w hbw hd
                    clear hd
                    go_simp
                    first | done | with_reducible rfl
                  (try simp only [Act.put, List.setIfInBounds_toArray, List.set_cons_zero, List.set_cons_succ, List.nil_append, List.cons_append])
                  refine chain_is (step_take (by rfl) ?yf3) ?rf3
                  case yf3 =>
                    intro w hbw hd
                    clear hd
                    go_simp
                    first | done | with_reducible rfl
                  (try simp only [Act.put, List.setIfInBounds_toArray, List.set_cons_zero, List.set_cons_succ, List.nil_append, List.cons_append])
                  refine chain_is (step_take (by rfl) ?yf4) ?rf4
                  case yf4 =>
                    intro w hbw hd
                    clear hd
                    go_simp
                    first | done | with_reducible rfl
                  (try simp only [Act.put, List.setIfInBounds_toArray, List.set_cons_zero, List.set_cons_succ, List.nil_append, List.cons_append])
                  refine chain_is (step_take (by rfl) ?yf5) ?rf5
                  case yf5 =>
                    intro w hbw hd
                    have e0 := cell_keep (hb0.trans (hbw.mono hb0.size)) q0 hbl
                    have e2 := cell_keep (hb0.trans (hbw.mono hb0.size)) q2 hbl
                    clear hd
                    go_simp
                    first | done | with_reducible rfl
                  (try simp only [Act.put, List.setIfInBounds_toArray, List.set_cons_zero, List.set_cons_succ, List.nil_append, List.cons_append])
                  refine chain_is (step_take (by rfl) ?yf6) ?rf6
                  case yf6 =>
                    intro w hbw hd
                    clear hd
                    go_simp
                    first | done | with_reducible rfl
                  (try simp only [Act.put, List.setIfInBounds_toArray, List.set_cons_zero, List.set_cons_succ, List.nil_append, List.cons_append])
                  refine chain_is (step_take (by rfl) ?yf7) ?rf7
                  case yf7 =>
                    intro w hbw hd
                    clear hd
                    go_simp
                    first | done | with_reducible rfl
                  (try simp only [Act.put, List.setIfInBounds_toArray, List.set_cons_zero, List.set_cons_succ, List.nil_append, List.cons_append])
                  refine chain_is (step_take (by rfl) ?yf8) ?rf8
                  case yf8 =>
                    intro w hbw hd
                    clear hd
                    go_simp
                    first | done | with_reducible rfl
                  (try simp only [Act.put, List.setIfInBounds_toArray, List.set_cons_zero, List.set_cons_succ, List.nil_append, List.cons_append])
                  refine chain_is (step_take (by rfl) ?yf9) ?rf9
                  case yf9 =>
                    intro w hbw hd
                    clear hd
                    go_simp
                    first | done | with_reducible rfl
                  (try simp only [Act.put, List.setIfInBounds_toArray, List.set_cons_zero, List.set_cons_succ, List.nil_append, List.cons_append])
                  refine chain_is (step_take (by rfl) ?yf10) ?rf10
                  case yf10 =>
                    intro w hbw hd
                    clear hd
                    go_simp
                    first | done | with_reducible rfl
                  (try simp only [Act.put, List.setIfInBounds_toArray, List.set_cons_zero, List.set_cons_succ, List.nil_append, List.cons_append])
                  refine chain_is (step_take (by rfl) ?yf11) ?rf11
                  case yf11 =>
                    intro w hbw hd
                    clear hd
                    go_simp
                    first | done | with_reducible rfl
                  (try simp only [Act.put, List.setIfInBounds_toArray, List.set_cons_zero, List.set_cons_succ, List.nil_append, List.cons_append])
                  refine chain_is (step_take (by rfl) ?yf12) ?rf12
                  case yf12 =>
                    intro w hbw hd
                    have e0 := cell_keep (hb0.trans (hbw.mono hb0.size)) q0 hbl
                    have e2 := cell_keep (hb0.trans (hbw.mono hb0.size)) q2 hbl
                    clear hd
                    go_simp
                    first | done | with_reducible rfl
                  (try simp only [Act.put, List.setIfInBounds_toArray, List.set_cons_zero, List.set_cons_succ, List.nil_append, List.cons_append])
                  refine chain_is (step_take (by rfl) ?yf13) ?rf13
                  case yf13 =>
                    intro w hbw hd
                    clear hd
                    go_simp
                    first | done | with_reducible rfl
                  (try simp only [Act.put, List.setIfInBounds_toArray, List.set_cons_zero, List.set_cons_succ, List.nil_append, List.cons_append])
                  refine chain_is (step_take (by rfl) ?yf14) ?rf14
                  case yf14 =>
                    intro w hbw hd
                    clear hd
                    go_simp
                    first | done | with_reducible rfl
                  (try simp only [Act.put, List.setIfInBounds_toArray, List.set_cons_zero, List.set_cons_succ, List.nil_append, List.cons_append])
                  refine chain_has ?sf15 (fun vf15 => ?rf15)
                  case sf15 =>
                    intro w hbw hd K Q' hK
                    clear hd
                    go_simp
                    refine (put_any A2 c2 ys (x.1, c, x.2.2) _ (HO.out.ext (hb0.trans (hbw.mono hb0.size))) (by omega)).mono ?_
                    unfold RowPost
                    rw [HMM.out]
                    rintro e x1 ⟨A5, c5, rfl, hc5, hx1⟩
                    go_wp2_with fail
                    refine hK.out (.slice A5 M.length c5) _ _ ?_ ?_ ?_
                    · (simp only [Act.put, List.setIfInBounds_toArray, List.set_cons_zero, List.set_cons_succ, List.nil_append, List.cons_append])
                    · exact (by repeat' (first | with_reducible exact Below.refl _ _ | with_reducible assumption | with_reducible apply Below.drew | with_reducible apply below_drewN | with_reducible apply Below.alloc | with_reducible apply Below.setCell | (with_reducible refine Below.trans ?_ (Below.mono (by assumption) ?_)) | (simp; done) | (simp; omega) | omega | with_reducible apply le_size_alloc | with_reducible apply le_size_drewN | with_reducible apply le_size_drew | with_reducible apply le_size_setCell | with_reducible refine Nat.le_trans ?_ (Below.size (by assumption))))
                    · exact ⟨A5, c5, rfl, hc5⟩
                  (try simp only [Act.put, List.setIfInBounds_toArray, List.set_cons_zero, List.set_cons_succ, List.nil_append, List.cons_append])
                  refine chain_has (step_takeH (by rfl) ?yf16) (fun vf16 => ?rf16)
                  case yf16 =>
                    intro w hbw hd
                    obtain ⟨A5, c5, rfl, hc5⟩ : PutF M _ w := hd 15 _ _ (by rfl) rfl rfl
                    clear hd
                    refine ⟨.slice A5 M.length c5, ?_, ⟨A5, c5, rfl, hc5⟩⟩
                    go_simp
                  (try simp only [Act.put, List.setIfInBounds_toArray, List.set_cons_zero, List.set_cons_succ, List.nil_append, List.cons_append])
                  refine chain_end (fun wz hbz hd => ?_)
                  obtain ⟨A6, c6, rfl, hc6⟩ : PutF M _ wz := hd 16 _ _ rfl rfl
                  obtain ⟨A5, c5, rfl, hc5⟩ : PutF M _ wz := hd 15 _ _ rfl rfl
                  have HO6 := Lib.hid hc6
                  have hbz2 : Below w.heap.size w wz := hbr.trans ((hb0.trans (hbz.mono hb0.size)).mono zw)
                  clear hd hc5 hc6
                  go_wp2_with fail
                  go_roundw
                  case rel => exact ⟨k + 1, M, A6, c6, by omega, by go_num, rfl, HM.out, HNE.out, by rw [HML.out]; omega, HO6.out, hbz2⟩
                  case measure => simp [intOf]; omega
                · have HM : Hid ((addsF (l.take (k + 1)) n c).foldl putM l = ys) := by show _ = _; rw [HN.out, if_neg e2, List.append_nil, HY.out]
                  have e2b : (x.2.1 == n) = false := by simpa using e2
                  clear HN e2
                  go_wp2
                  go_roundw
                  case rel => exact ⟨k + 1, ys, A2, c2, by omega, by go_num, rfl, HM.out, HNE.out, by omega, HO.out, hbr⟩
                  case measure => simp [intOf]; omega
            · have hd : l.take k = l := List.take_of_length_le (by omega)
              rw [hd] at HY HNC
              have hf : l.any (fun m => decide (m.2.1 = c)) = false := by
                rw [List.any_eq_false]
                intro m hm
                simpa using HNC.out m hm
              have HR := HR0.out hf
              rw [HY.out] at HR
              have HR := Lib.hid HR
              clear hd hf
              go_wp2
              refine bodyPost_ret (v := .tuple #[.slice A2 ys.length c2, .int .i64 0]) (by simp [results, Try.results26, go_sem]) rfl ?_
              unfold LePost
              rw [HR.out]
              exact ⟨A2, c2, rfl, HO.out, hbr⟩
  · have HR : Hid (frkM l n c = ([], y)) := by show _ = _; unfold frkM; rw [hk, if_pos y0]
    have yb : (y != 0) = true := by simpa using y0
    clear hk
    go_enter Try.func26, Try.ntmps26
    go_wp2_with (first | (go_at_call 13; refine (RCheck_any A cc l _ HS.out la HK.out).mono ?_; rintro e w1 ⟨rfl, hb1⟩; have z1 := hb1.size) | (go_at_call 54; (first | with_reducible refine (proc_b n _ d1 _).mono ?_ | with_reducible refine (proc_b c _ d2 _).mono ?_); rintro e w' ⟨rfl, rfl⟩))
    refine bodyPost_ret (v := .tuple #[.slice none 0 0, .int .i64 y]) (by simp [results, Try.results26, go_sem]) rfl ?_
    exact LePost.bad HR.out hb1
end Go.Proofs.Ytbeddhamnefpiaa
