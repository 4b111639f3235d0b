/- headgateref25: Remove, Drop, Of, Move. Written by gen_rr3.py. -/
import Derived.Test.YtbeddhamnefpiaaRR2
namespace Go.Proofs.Ytbeddhamnefpiaa
set_option linter.unusedSimpArgs false
set_option linter.unusedVariables false
open Go.RowKit Go.Maps

theorem delM_at {l : List M3} (h : OkL l) {i : Nat} {x : M3} (hx : l[i]? = some x) : delM l x = l.take i ++ l.drop (i + 1) := by
  obtain ⟨hi, rfl⟩ := List.getElem?_eq_some_iff.1 hx
  have hn := h.nodup
  have e : l = l.take i ++ l[i] :: l.drop (i + 1) := by rw [← List.drop_eq_getElem_cons hi, List.take_append_drop]
  obtain ⟨x, ex⟩ : ∃ x, l[i] = x := ⟨_, rfl⟩
  rw [ex] at e ⊢
  obtain ⟨a, ea⟩ : ∃ a, l.take i = a := ⟨_, rfl⟩
  obtain ⟨b, eb⟩ : ∃ b, l.drop (i + 1) = b := ⟨_, rfl⟩
  rw [ea, eb] at e ⊢
  rw [e] at hn ⊢
  rw [List.nodup_append] at hn
  obtain ⟨_, h2, h3⟩ := hn
  have h4 := (List.nodup_cons.1 h2).1
  unfold delM
  rw [List.filter_append, List.filter_cons_of_neg (by simp), List.filter_eq_self.2, List.filter_eq_self.2]
  · intro m hm
    have : m ≠ x := fun e => h4 (e ▸ hm)
    simpa using this
  · intro m hm
    have : m ≠ x := fun e => h3 m hm x (List.mem_cons_self ..) e
    simpa using this
theorem delM_len (l : List M3) (x : M3) : (delM l x).length ≤ l.length := List.length_filter_le _ _
theorem cntM_app (a b : List M3) (f : Int) : cntM (a ++ b) f = cntM a f + cntM b f := by
  unfold cntM
  rw [List.filter_append, List.length_append]
  omega
theorem cntM_del {l : List M3} (h : OkL l) {i : Nat} {x : M3} (hx : l[i]? = some x) : cntM (delM l x) x.1 = cntM l x.1 - 1 := by
  rw [delM_at h hx]
  obtain ⟨hi, rfl⟩ := List.getElem?_eq_some_iff.1 hx
  have e : l = l.take i ++ ([l[i]] ++ l.drop (i + 1)) := by rw [List.singleton_append, ← List.drop_eq_getElem_cons hi, List.take_append_drop]
  have h1 : cntM l l[i].1 = cntM (l.take i ++ ([l[i]] ++ l.drop (i + 1))) l[i].1 := by rw [← e]
  rw [h1, cntM_app, cntM_app, cntM_app]
  have : cntM [l[i]] l[i].1 = 1 := by simp [cntM]
  omega
theorem OwnR.grownT {P : Program} {α β : Type} {E : Elt P α} {F : Elt P β} {w w' : World} {base base2 n c m d : Nat} {A B : Option Addr} {l : List α} {k : List β} (h : OwnR E w base (.slice A n c) l) (h2 : OwnR F w base2 (.slice B m d) k) (hne : E.e ≠ F.e) (hg : w.grownBy w' (Value.ownBlock (.slice B m d))) : OwnR E w' base (.slice A n c) l := by
  obtain ⟨hl, h⟩ := h
  refine ⟨hl, ?_⟩
  rcases h with h | ⟨g, cap, cur, e, h1, h3, h4⟩
  · exact .inl h
  · refine .inr ⟨g, cap, cur, e, h1, (hg.block g (Array.getElem?_eq_some_iff.1 h3).1 (fun e2 => ?_)).trans h3, h4⟩
    obtain ⟨_, ⟨e3, _⟩ | ⟨g2, cap2, cur2, e3, _, hb, _⟩⟩ := h2
    · injection e3 with e4 e5 e6
      subst e4
      simp [Value.ownBlock] at e2
    · injection e3 with e4 e5 e6
      subst e4
      simp only [Value.ownBlock, Option.some.injEq] at e2
      subst e2
      rw [hb] at h3
      injection h3 with h3
      injection h3 with h5 h6 h7
      exact hne h6.symm
theorem OwnR.crr {P : Program} {α : Type} {E : Elt P α} {w : World} {base c : Nat} {A : Option Addr} {l : List α} (h : OwnR E w base (.slice A l.length c) l) : CR E w A c l := CanR.cr (.inr h)

set_option maxRecDepth 100000 in
set_option maxHeartbeats 2000000 in
theorem RRemove_any (A : Option Addr) (c : Nat) (l : List M3) (p q : Int) (w : World) (ha : CR mapE w A c l) (la : l.length ≤ 1000) :
    Calls Try.prog 30 #[.slice A l.length c, .agg #[.int .i64 p, .int .i64 q]] w (RemPost (remM l (p, q)) w) := by
  have HS := Lib.hid ha
  have hcap := ha.2
  clear ha
  obtain ⟨V, hV⟩ : ∃ V, w.alloc (.cells #[.int .i64 p, .int .i64 q] 24) = V := ⟨_, rfl⟩
  have BV : Below w.heap.size w V := by rw [← hV]; exact (Below.refl _ w).alloc (Nat.le_refl _) _
  have kV : Blk V w.heap.size 24 #[.int .i64 p, .int .i64 q] := by rw [← hV]; exact Blk.new_ rfl rfl
  have zV : w.heap.size < V.heap.size := kV.lt
  have p0 : V.cell? ⟨w.heap.size, 0, none⟩ = some (.int .i64 p) := by simpa using kV.cell_ 0
  have p1 : V.cell? ⟨w.heap.size, 1, none⟩ = some (.int .i64 q) := by simpa using kV.cell_ 1
  have HSV := Lib.hid (HS.out.ext BV)
  obtain ⟨⟨f, z⟩, hr⟩ : ∃ r, fndM l (p, q) = r := ⟨_, rfl⟩
  have HF := Lib.hid hr
  by_cases z0 : z = 0
  · subst z0
    rcases fndM_cases l (p, q) with ⟨y, hy, hz, hr2⟩ | ⟨hz, ok, d2, ⟨hf, hr2⟩ | ⟨f2, hf, hr2⟩⟩
    · rw [hr] at hr2; injection hr2 with _ h3; exact absurd h3.symm hy
    · rw [hr] at hr2; injection hr2 with _ h3; exact absurd h3 (by decide)
    · rw [hr] at hr2
      injection hr2 with h3
      subst h3
      rcases idxM_cases l (p, q) with ⟨_, h2, _⟩ | ⟨i, x, hx, hxp, h2, hi, _⟩
      · rw [hf] at h2; cases h2
      · rw [hf] at h2
        injection h2 with h2
        obtain ⟨xf, xp⟩ := x
        simp only at hxp h2
        subst hxp h2
        have hlt := (List.getElem?_eq_some_iff.1 hx).1
        have hcn := cntM_le l f
        have HR : Hid (remM l (p, q) = (delM l (f, p, q), f, cntM l f - 1, 0)) := by show _ = _; unfold remM; rw [hr, if_neg (by simp)]
        have HN : Hid (cntM (delM l (f, p, q)) f = cntM l f - 1) := cntM_del ok hx
        have HD : Hid (delM l (f, p, q) = l.take i ++ l.drop (i + 1)) := delM_at ok hx
        have HI := Lib.hid hi
        obtain ⟨b, off, x', rfl, hbl, hx', q0, q1, q2⟩ := map_at HSV.out.1 hlt
        have j1 : (i : Int) < l.length := by omega
        have j2 : (i : Int) ≤ 1000 := by omega
        have hwr : IntKind.i64.wrap ((i : Int) + 1) = (i : Int) + 1 := IntWalk.i64_in _ (by omega)
        clear hr hf hz hx hi hx' q0 q1 q2 hbl
        go_enter Try.func30, Try.ntmps30
        go_wp2_with (first | (go_at_call 15; refine (RFind_any (some ⟨b, off, none⟩) c l _ _ _ (HSV.out.ext (by repeat' (first | with_reducible exact Below.refl _ _ | with_reducible assumption | with_reducible apply Below.drew | with_reducible apply below_drewN | with_reducible apply Below.alloc | with_reducible apply Below.setCell | (with_reducible refine Below.trans ?_ (Below.mono (by assumption) ?_)) | (simp; done) | (simp; omega) | omega | with_reducible apply le_size_alloc | with_reducible apply le_size_drewN | with_reducible apply le_size_drew | with_reducible apply le_size_setCell | refine Nat.le_trans ?_ (Below.size (by assumption))))) la HF.out).mono ?_; rintro e w1 ⟨rfl, hb1⟩; have bw1 : Below V.heap.size V w1 := (by repeat' (first | with_reducible exact Below.refl _ _ | with_reducible assumption | with_reducible apply Below.drew | with_reducible apply below_drewN | with_reducible apply Below.alloc | with_reducible apply Below.setCell | (with_reducible refine Below.trans ?_ (Below.mono (by assumption) ?_)) | (simp; done) | (simp; omega) | omega | with_reducible apply le_size_alloc | with_reducible apply le_size_drewN | with_reducible apply le_size_drew | with_reducible apply le_size_setCell | refine Nat.le_trans ?_ (Below.size (by assumption)))); have zw1 := bw1.size; have p0w1 := cell_keep bw1 p0 zV; have p1w1 := cell_keep bw1 p1 zV; have yw1 : w.heap.size < w1.heap.size := Nat.lt_of_lt_of_le zV zw1) | (go_at_call 48; refine (at_any (some ⟨b, off, none⟩) c l _ _ _ (HSV.out.1.ext (by repeat' (first | with_reducible exact Below.refl _ _ | with_reducible assumption | with_reducible apply Below.drew | with_reducible apply below_drewN | with_reducible apply Below.alloc | with_reducible apply Below.setCell | (with_reducible refine Below.trans ?_ (Below.mono (by assumption) ?_)) | (simp; done) | (simp; omega) | omega | with_reducible apply le_size_alloc | with_reducible apply le_size_drewN | with_reducible apply le_size_drew | with_reducible apply le_size_setCell | refine Nat.le_trans ?_ (Below.size (by assumption))))) la HI.out).mono ?_; rintro e w2 ⟨rfl, hb2⟩; have bw2 : Below V.heap.size V w2 := (by repeat' (first | with_reducible exact Below.refl _ _ | with_reducible assumption | with_reducible apply Below.drew | with_reducible apply below_drewN | with_reducible apply Below.alloc | with_reducible apply Below.setCell | (with_reducible refine Below.trans ?_ (Below.mono (by assumption) ?_)) | (simp; done) | (simp; omega) | omega | with_reducible apply le_size_alloc | with_reducible apply le_size_drewN | with_reducible apply le_size_drew | with_reducible apply le_size_setCell | refine Nat.le_trans ?_ (Below.size (by assumption)))); have zw2 := bw2.size; have p0w2 := cell_keep bw2 p0 zV; have p1w2 := cell_keep bw2 p1 zV; have yw2 : w.heap.size < w2.heap.size := Nat.lt_of_lt_of_le zV zw2))
        obtain ⟨l1, hl1⟩ : ∃ l1, l.take i = l1 := ⟨_, rfl⟩
        obtain ⟨l2, hl2⟩ : ∃ l2, l.drop (i + 1) = l2 := ⟨_, rfl⟩
        have n1 : l1.length = i := by rw [← hl1]; simp; omega
        have n2 : l2.length = l.length - (i + 1) := by rw [← hl2]; simp
        have hpre := run_preR (P := Try.prog) mapE (some ⟨b, off, none⟩) c l.length (i : Int) (by omega) (by omega)
        have hsuf := run_sufR (P := Try.prog) mapE (some ⟨b, off, none⟩) c l.length ((i : Int) + 1) (by omega) (by omega)
        have k8 : ((i : Int)).toNat = i := by omega
        have k9 : ((i : Int) + 1).toNat = i + 1 := by omega
        rw [k8] at hpre
        rw [k9] at hsuf
        obtain ⟨A2, hA2⟩ : ∃ A2, (if c = i + 1 then some ⟨b, off, none⟩ else (some (⟨b, off, none⟩ : Addr)).map (fun a => a.add ((i + 1) * mapE.sz))) = A2 := ⟨_, rfl⟩
        have H1 : Hid (SR mapE w2 (some ⟨b, off, none⟩) l1) := by show SR _ _ _ _; rw [← hl1]; exact (HSV.out.1.ext bw2).take i
        have H2 : Hid (SR mapE w2 A2 l2) := by
          show SR _ _ _ _
          have h := (HSV.out.ext bw2).suf (i + 1) (by omega)
          rw [hA2, hl2] at h
          exact h.1
        rw [hA2] at hsuf
        have hpre2 : ∀ W, (Instr.slice 22 (.slice (some ⟨b, off, none⟩) l.length c) none (some (.int .i64 i)) none).run Try.prog W = .ok (.slice (some ⟨b, off, none⟩) i c) W := hpre
        have hsuf2 : ∀ W, (Instr.slice 22 (.slice (some ⟨b, off, none⟩) l.length c) (some (.int .i64 ((i : Int) + 1))) none none).run Try.prog W = .ok (.slice A2 (l.length - (i + 1)) (c - (i + 1))) W := hsuf
        have HBV : Hid (Below w.heap.size w w2) := by show Below _ _ _; exact BV.trans (bw2.mono BV.size)
        have HDL : Hid (delM l (f, p, q) = ([] ++ l1) ++ l2) := by show _ = _; rw [← hl1, ← hl2]; simpa using HD.out
        clear hl1 hl2 hA2 hpre hsuf bw1 bw2 hb1 hb2 BV HD
        go_wp2_with fail
        go_region_held3 (fun W => Below w2.heap.size w2 W) (exact (by repeat' (first | with_reducible exact Below.refl _ _ | with_reducible assumption | with_reducible apply Below.drew | with_reducible apply below_drewN | with_reducible apply Below.alloc | with_reducible apply Below.setCell | (with_reducible refine Below.trans ?_ (Below.mono (by assumption) ?_)) | (simp; done) | (simp; omega) | omega | with_reducible apply le_size_alloc | with_reducible apply le_size_drewN | with_reducible apply le_size_drew | with_reducible apply le_size_setCell | refine Nat.le_trans ?_ (Below.size (by assumption)))))
          (first | (refine step_appR mapE rfl (.tmp 24) (.tmp 27) _ rfl rfl _ _ (Nat.le_refl _) _ 0 0 [] rfl (.inl ⟨rfl, SR.nil⟩) (some ⟨b, off, none⟩) c i l1 n1.symm (H1.out.ext ?_) (by simp; omega) rfl rfl ?_; (exact (by repeat' (first | with_reducible exact Below.refl _ _ | with_reducible assumption | with_reducible apply Below.drew | with_reducible apply below_drewN | with_reducible apply Below.alloc | with_reducible apply Below.setCell | (with_reducible refine Below.trans ?_ (Below.mono (by assumption) ?_)) | (simp; done) | (simp; omega) | omega | with_reducible apply le_size_alloc | with_reducible apply le_size_drewN | with_reducible apply le_size_drew | with_reducible apply le_size_setCell | refine Nat.le_trans ?_ (Below.size (by assumption))))); intro A5 c5 w5 m5 hm5 hc5 hb5; have z5 := hb5.size; obtain ⟨hz5, y5⟩ := mono2 hb5 (Below.size (show Below w2.heap.size w2 _ from (by repeat' (first | with_reducible exact Below.refl _ _ | with_reducible assumption | with_reducible apply Below.drew | with_reducible apply below_drewN | with_reducible apply Below.alloc | with_reducible apply Below.setCell | (with_reducible refine Below.trans ?_ (Below.mono (by assumption) ?_)) | (simp; done) | (simp; omega) | omega | with_reducible apply le_size_alloc | with_reducible apply le_size_drewN | with_reducible apply le_size_drew | with_reducible apply le_size_setCell | refine Nat.le_trans ?_ (Below.size (by assumption)))))); clear hb5) | (refine step_appR mapE rfl (.tmp 28) (.tmp 32) _ rfl rfl _ _ z5 A5 c5 m5 ([] ++ l1) hm5.out hc5 A2 (c - (i + 1)) (l.length - (i + 1)) l2 n2.symm (H2.out.ext ?_) (by simp; omega) rfl rfl ?_; (exact (by repeat' (first | with_reducible exact Below.refl _ _ | with_reducible assumption | with_reducible apply Below.drew | with_reducible apply below_drewN | with_reducible apply Below.alloc | with_reducible apply Below.setCell | (with_reducible refine Below.trans ?_ (Below.mono (by assumption) ?_)) | (simp; done) | (simp; omega) | omega | with_reducible apply le_size_alloc | with_reducible apply le_size_drewN | with_reducible apply le_size_drew | with_reducible apply le_size_setCell | refine Nat.le_trans ?_ (Below.size (by assumption))))); intro A7 c7 w7 m7 hm7 hc7 hb7; have hz7 := hb7.mono y5; clear hb7; have HB7 : Hid (Below w2.heap.size w2 w7) := (by show Below _ _ _; exact (by repeat' (first | with_reducible exact Below.refl _ _ | with_reducible assumption | with_reducible apply Below.drew | with_reducible apply below_drewN | with_reducible apply Below.alloc | with_reducible apply Below.setCell | (with_reducible refine Below.trans ?_ (Below.mono (by assumption) ?_)) | (simp; done) | (simp; omega) | omega | with_reducible apply le_size_alloc | with_reducible apply le_size_drewN | with_reducible apply le_size_drew | with_reducible apply le_size_setCell | refine Nat.le_trans ?_ (Below.size (by assumption)))))))
        all_goals
          have HC7 := Lib.hid hc7.cr
          clear hc7
          obtain ⟨L, hL⟩ : ∃ L, ([] ++ l1) ++ l2 = L := ⟨_, rfl⟩
          rw [hL] at HC7 hm7 HDL
          have hm := hm7.out
          subst hm
          have hLl : L.length ≤ 5000 := by rw [← hL]; simp; omega
          rw [HDL.out] at HN HR
          clear hL hm7
          go_wp2_with ((go_at_call 51; refine (rcount_any A7 c7 L f _ HC7.out.1 hLl HN.out).mono ?_; rintro e w8 ⟨rfl, hb8⟩))
          refine bodyPost_ret (v := .tuple #[.slice A7 L.length c7, .int .i64 f, .int .i64 (cntM l f - 1), .int .i64 0]) (by simp [results, Try.results30, go_sem]) rfl ?_
          unfold RemPost
          rw [HR.out]
          exact ⟨A7, c7, rfl, HC7.out.ext hb8, HBV.out.trans ((HB7.out.trans (hb8.mono HB7.out.size)).mono HBV.out.size)⟩
  · have HR : Hid (remM l (p, q) = ([], 0, 0, z)) := by show _ = _; unfold remM; rw [hr, if_pos z0]
    have yb : (z != 0) = true := by simpa using z0
    clear hr
    go_enter Try.func30, Try.ntmps30
    go_wp2_with (first | (go_at_call 15; refine (RFind_any A c l _ _ _ (HSV.out.ext (by repeat' (first | with_reducible exact Below.refl _ _ | with_reducible assumption | with_reducible apply Below.drew | with_reducible apply below_drewN | with_reducible apply Below.alloc | with_reducible apply Below.setCell | (with_reducible refine Below.trans ?_ (Below.mono (by assumption) ?_)) | (simp; done) | (simp; omega) | omega | with_reducible apply le_size_alloc | with_reducible apply le_size_drewN | with_reducible apply le_size_drew | with_reducible apply le_size_setCell | refine Nat.le_trans ?_ (Below.size (by assumption))))) la HF.out).mono ?_; rintro e w1 ⟨rfl, hb1⟩; have bw1 : Below V.heap.size V w1 := (by repeat' (first | with_reducible exact Below.refl _ _ | with_reducible assumption | with_reducible apply Below.drew | with_reducible apply below_drewN | with_reducible apply Below.alloc | with_reducible apply Below.setCell | (with_reducible refine Below.trans ?_ (Below.mono (by assumption) ?_)) | (simp; done) | (simp; omega) | omega | with_reducible apply le_size_alloc | with_reducible apply le_size_drewN | with_reducible apply le_size_drew | with_reducible apply le_size_setCell | refine Nat.le_trans ?_ (Below.size (by assumption)))); have zw1 := bw1.size; have p0w1 := cell_keep bw1 p0 zV; have p1w1 := cell_keep bw1 p1 zV; have yw1 : w.heap.size < w1.heap.size := Nat.lt_of_lt_of_le zV zw1))
    refine bodyPost_ret (v := .tuple #[.slice none 0 0, .int .i64 0, .int .i64 0, .int .i64 z]) (by simp [results, Try.results30, go_sem]) rfl ?_
    exact RemPost.bad HR.out (BV.trans (bw1.mono BV.size))

set_option maxRecDepth 100000 in
set_option maxHeartbeats 2000000 in
theorem RDrop_any (A : Option Addr) (c : Nat) (l : List M3) (f : Int) (w : World) (ha : CR mapE w A c l) (la : l.length ≤ 1000) :
    Calls Try.prog 34 #[.slice A l.length c, .int .i64 f] w (DrpPost (drpM l f) w) := by
  have HS := Lib.hid ha
  have hcap := ha.2
  clear ha
  obtain ⟨⟨y, n⟩, hk⟩ : ∃ r, chkM l = r := ⟨_, rfl⟩
  have HK := Lib.hid hk
  by_cases y0 : y = 0
  · subst y0
    cases d1 : decide (0 ≤ f ∧ f < 256) with
    | false =>
      have HR : Hid (drpM l f = ([], [], 2)) := by show _ = _; unfold drpM; rw [hk, if_neg (by simp), if_neg (by unfold okF; rw [d1]; simp)]
      clear hk
      go_enter Try.func34, Try.ntmps34
      go_wp2_with (first | (go_at_call 13; refine (RCheck_any A c l _ HS.out la HK.out).mono ?_; rintro e w1 ⟨rfl, hb1⟩; have z1 := hb1.size) | (go_at_call 45; refine (frame_b _ _ d1 _).mono ?_; rintro e w' ⟨rfl, rfl⟩))
      refine bodyPost_ret (v := .tuple #[.slice none 0 0, .slice none 0 0, .int .i64 2]) (by simp [results, Try.results34, go_sem]) rfl ?_
      exact DrpPost.bad HR.out hb1
    | true =>
      have HR : Hid (drpM l f = (l.filter (fun m => decide (m.1 ≠ f)), plsM l f, 0)) := by show _ = _; unfold drpM; rw [hk, if_neg (by simp), if_pos (by unfold okF; rw [d1])]
      clear hk
      go_enter Try.func34, Try.ntmps34
      go_wp2_with (first | (go_at_call 13; refine (RCheck_any A c l _ HS.out la HK.out).mono ?_; rintro e w1 ⟨rfl, hb1⟩; have z1 := hb1.size) | (go_at_call 45; refine (frame_b _ _ d1 _).mono ?_; rintro e w' ⟨rfl, rfl⟩))
      go_loopw [9, 10, 11] (fun v u i wr => ∃ (k : Nat) (ys : List M3) (zs : List (Int × Int)) (A2 : Option Addr) (c2 : Nat) (A3 : Option Addr) (c3 : Nat), k ≤ l.length ∧ i = .int .i64 k ∧ v = .slice A2 ys.length c2 ∧ u = .slice A3 zs.length c3 ∧ Hid ((l.take k).filter (fun m => decide (m.1 ≠ f)) = ys) ∧ Hid (plsM (l.take k) f = zs) ∧ ys.length ≤ k ∧ zs.length ≤ k ∧ OwnR mapE wr w.heap.size (.slice A2 ys.length c2) ys ∧ OwnR plE wr w.heap.size (.slice A3 zs.length c3) zs ∧ Below w.heap.size w wr) (fun _ _ i _ => l.length - (intOf i).toNat)
      case atStart => exact ⟨0, [], [], none, 0, none, 0, by omega, rfl, rfl, rfl, by show _ = _; simp, by show _ = _; simp [plsM], by simp, by simp, OwnR.nil, OwnR.nil, hb1⟩
      case round =>
        obtain ⟨k, ys, zs, A2, c2, A3, c3, hk, rfl, rfl, rfl, HY, HZ, hyl, hzl, ho2, ho3, hbw⟩ := hrel
        have zw := hbw.size
        by_cases hlt : k < l.length
        · obtain ⟨bb, off, x, rfl, hbl, hx, q0, q1, q2⟩ := map_at (HS.out.1.ext hbw) hlt
          have i1 : (k : Int) < l.length := by omega
          have HN : Hid ((l.take (k + 1)).filter (fun m => decide (m.1 ≠ f)) = ys ++ [x].filter (fun m => decide (m.1 ≠ f))) := by
            show _ = _
            rw [take_snoc hx, List.filter_append, HY.out]
          have HP : Hid (plsM (l.take (k + 1)) f = zs ++ if x.1 = f then [x.2] else []) := by
            show _ = _
            rw [take_snoc hx, plsM_snoc, HZ.out]
          clear hx HY HZ
          by_cases e : x.1 = f
          · have HM : Hid ((l.take (k + 1)).filter (fun m => decide (m.1 ≠ f)) = ys) := by show _ = _; rw [HN.out]; simp [e]
            have HM2 : Hid (plsM (l.take (k + 1)) f = zs ++ [x.2]) := by show _ = _; rw [HP.out, if_pos e]
            clear HN HP
            have eb : (x.1 == f) = true := by simpa using e
            clear e
            go_wp2_with (at_builtin; refine wpList_ownR plE rfl (.tmp 36) (.tmp 42) _ rfl rfl _ w.heap.size (by simp; omega) A3 c3 _ zs rfl (ho3.ext ((Below.refl _ wr).alloc (Nat.le_refl _) _)) (some ⟨wr.heap.size, 0, none⟩) 1 1 [x.2] rfl (SR.of_blk (E := plE) (l := [x.2]) (t := 24) (Blk.new_ (by simp) rfl)) (by simp) (by simp; omega) rfl rfl ?_; intro A5 c5 w5 hc5 hb5 hg5)
            have ho2' := OwnR.grownT (ho2.ext ((Below.refl _ wr).alloc (Nat.le_refl _) _)) (ho3.ext ((Below.refl _ wr).alloc (Nat.le_refl _) _)) (by decide) hg5
            go_roundw
            case rel => exact ⟨k + 1, ys, zs ++ [x.2], A2, c2, A5, c5, by omega, by go_num, rfl, by simp, HM.out, HM2.out, by omega, by simp; omega, ho2', hc5, (hbw.alloc zw _).trans hb5⟩
            case measure => simp [intOf]; omega
          · have HM : Hid ((l.take (k + 1)).filter (fun m => decide (m.1 ≠ f)) = ys ++ [x]) := by show _ = _; rw [HN.out]; simp [e]
            have HM2 : Hid (plsM (l.take (k + 1)) f = zs) := by show _ = _; rw [HP.out, if_neg e]; simp
            clear HN HP
            have eb : (x.1 == f) = false := by simpa using e
            clear e
            go_wp2_with (at_builtin; refine wpList_ownR mapE rfl (.tmp 44) (.tmp 49) _ rfl rfl _ w.heap.size (by simp; omega) A2 c2 _ ys rfl (ho2.ext ((Below.refl _ wr).alloc (Nat.le_refl _) _)) (some ⟨wr.heap.size, 0, none⟩) 1 1 [x] rfl (SR.of_blk (E := mapE) (l := [x]) (t := 59) (Blk.new_ (by simp) rfl)) (by simp) (by simp; omega) rfl rfl ?_; intro A5 c5 w5 hc5 hb5 hg5)
            have ho3' := OwnR.grownT (ho3.ext ((Below.refl _ wr).alloc (Nat.le_refl _) _)) (ho2.ext ((Below.refl _ wr).alloc (Nat.le_refl _) _)) (by decide) hg5
            go_roundw
            case rel => exact ⟨k + 1, ys ++ [x], zs, A5, c5, A3, c3, by omega, by go_num, by simp, rfl, HM.out, HM2.out, by simp; omega, by omega, hc5, ho3', (hbw.alloc zw _).trans hb5⟩
            case measure => simp [intOf]; omega
        · have hd : l.take k = l := List.take_of_length_le (by omega)
          rw [hd] at HY HZ
          have HO2 := Lib.hid ho2.crr
          have HO3 := Lib.hid ho3.crr
          clear hd ho2 ho3
          go_wp2_with fail
          refine bodyPost_ret (v := .tuple #[.slice A2 ys.length c2, .slice A3 zs.length c3, .int .i64 0]) (by simp [results, Try.results34, go_sem]) rfl ?_
          unfold DrpPost
          rw [HR.out, HY.out, HZ.out]
          exact ⟨A2, c2, A3, c3, rfl, HO2.out, HO3.out, hbw⟩
  · have HR : Hid (drpM l f = ([], [], y)) := by show _ = _; unfold drpM; rw [hk, if_pos y0]
    have yb : (y != 0) = true := by simpa using y0
    clear hk
    go_enter Try.func34, Try.ntmps34
    go_wp2_with (first | (go_at_call 13; refine (RCheck_any A c l _ HS.out la HK.out).mono ?_; rintro e w1 ⟨rfl, hb1⟩; have z1 := hb1.size))
    refine bodyPost_ret (v := .tuple #[.slice none 0 0, .slice none 0 0, .int .i64 y]) (by simp [results, Try.results34, go_sem]) rfl ?_
    exact DrpPost.bad HR.out hb1

set_option maxRecDepth 100000 in
set_option maxHeartbeats 2000000 in
theorem ROf_any (A : Option Addr) (c : Nat) (l : List M3) (f : Int) (w : World) (ha : CR mapE w A c l) (la : l.length ≤ 1000) :
    Calls Try.prog 17 #[.slice A l.length c, .int .i64 f] w (OfPost (ofM l f) w) := by
  have HS := Lib.hid ha
  clear ha
  obtain ⟨⟨L1, L2, z⟩, hk⟩ : ∃ r, drpM l f = r := ⟨_, rfl⟩
  have HR : Hid (ofM l f = (L2, z)) := by show _ = _; rw [drpM_eq] at hk; injection hk
  have HK := Lib.hid hk
  clear hk
  go_enter Try.func17, Try.ntmps17
  go_wp2_with (first | (go_at_call 34; refine (RDrop_any A c l f _ HS.out la).mono ?_; unfold DrpPost; rw [HK.out]; rintro e w1 ⟨A2, c2, A3, c3, rfl, hc2, hc3, hb1⟩))
  refine bodyPost_ret (v := .tuple #[.slice A3 L2.length c3, .int .i64 z]) (by simp [results, Try.results17, go_sem]) rfl ?_
  unfold OfPost
  rw [HR.out]
  exact ⟨A3, c3, rfl, hc3, hb1⟩

set_option maxRecDepth 100000 in
set_option maxHeartbeats 2000000 in
theorem RMove_any (A : Option Addr) (c : Nat) (l : List M3) (p q f : Int) (w : World) (ha : CR mapE w A c l) (la : l.length ≤ 1000) :
    Calls Try.prog 32 #[.slice A l.length c, .agg #[.int .i64 p, .int .i64 q], .int .i64 f] w (MovPost (movM l (p, q) f) w) := by
  have HS := Lib.hid ha
  have hcap := ha.2
  clear ha
  obtain ⟨V, hV⟩ : ∃ V, w.alloc (.cells #[.int .i64 p, .int .i64 q] 24) = V := ⟨_, rfl⟩
  have BV : Below w.heap.size w V := by rw [← hV]; exact (Below.refl _ w).alloc (Nat.le_refl _) _
  have kV : Blk V w.heap.size 24 #[.int .i64 p, .int .i64 q] := by rw [← hV]; exact Blk.new_ rfl rfl
  have zV : w.heap.size < V.heap.size := kV.lt
  have p0 : V.cell? ⟨w.heap.size, 0, none⟩ = some (.int .i64 p) := by simpa using kV.cell_ 0
  have p1 : V.cell? ⟨w.heap.size, 1, none⟩ = some (.int .i64 q) := by simpa using kV.cell_ 1
  have HSV := Lib.hid (HS.out.ext BV)
  obtain ⟨⟨y, n⟩, hk⟩ : ∃ r, chkM l = r := ⟨_, rfl⟩
  have HK := Lib.hid hk
  by_cases y0 : y = 0
  · subst y0
    cases d2 : okP (p, q) with
    | false =>
      have HR : Hid (movM l (p, q) f = ([], 0, 2)) := by show _ = _; unfold movM; rw [hk, if_neg (by simp), if_neg (by simp [okM, d2])]
      clear hk
      go_enter Try.func32, Try.ntmps32
      go_wp2_with (first | (go_at_call 13; refine (RCheck_any A c l _ (HSV.out.ext (by repeat' (first | with_reducible exact Below.refl _ _ | with_reducible assumption | with_reducible apply Below.drew | with_reducible apply below_drewN | with_reducible apply Below.alloc | with_reducible apply Below.setCell | (with_reducible refine Below.trans ?_ (Below.mono (by assumption) ?_)) | (simp; done) | (simp; omega) | omega | with_reducible apply le_size_alloc | with_reducible apply le_size_drewN | with_reducible apply le_size_drew | with_reducible apply le_size_setCell | refine Nat.le_trans ?_ (Below.size (by assumption))))) la HK.out).mono ?_; rintro e w1 ⟨rfl, hb1⟩; have bw1 : Below V.heap.size V w1 := (by repeat' (first | with_reducible exact Below.refl _ _ | with_reducible assumption | with_reducible apply Below.drew | with_reducible apply below_drewN | with_reducible apply Below.alloc | with_reducible apply Below.setCell | (with_reducible refine Below.trans ?_ (Below.mono (by assumption) ?_)) | (simp; done) | (simp; omega) | omega | with_reducible apply le_size_alloc | with_reducible apply le_size_drewN | with_reducible apply le_size_drew | with_reducible apply le_size_setCell | refine Nat.le_trans ?_ (Below.size (by assumption)))); have zw1 := bw1.size; have p0w1 := cell_keep bw1 p0 zV; have p1w1 := cell_keep bw1 p1 zV; have yw1 : w.heap.size < w1.heap.size := Nat.lt_of_lt_of_le zV zw1) | (go_at_call 46; refine (place_b _ _ _ d2 _).mono ?_; rintro e w5 ⟨rfl, hw5⟩; have bw5 : Below V.heap.size V w5 := (by rw [hw5]; exact (by repeat' (first | with_reducible exact Below.refl _ _ | with_reducible assumption | with_reducible apply Below.drew | with_reducible apply below_drewN | with_reducible apply Below.alloc | with_reducible apply Below.setCell | (with_reducible refine Below.trans ?_ (Below.mono (by assumption) ?_)) | (simp; done) | (simp; omega) | omega | with_reducible apply le_size_alloc | with_reducible apply le_size_drewN | with_reducible apply le_size_drew | with_reducible apply le_size_setCell | refine Nat.le_trans ?_ (Below.size (by assumption))))); have p0w5 := cell_keep bw5 p0 zV; have p1w5 := cell_keep bw5 p1 zV; have zw5 := bw5.size; have yw5 : w.heap.size < w5.heap.size := Nat.lt_of_lt_of_le zV zw5; clear hw5))
      refine bodyPost_ret (v := .tuple #[.slice none 0 0, .int .i64 0, .int .i64 2]) (by simp [results, Try.results32, go_sem]) rfl ?_
      exact MovPost.bad HR.out (BV.trans ((show Below V.heap.size V _ from (by repeat' (first | with_reducible exact Below.refl _ _ | with_reducible assumption | with_reducible apply Below.drew | with_reducible apply below_drewN | with_reducible apply Below.alloc | with_reducible apply Below.setCell | (with_reducible refine Below.trans ?_ (Below.mono (by assumption) ?_)) | (simp; done) | (simp; omega) | omega | with_reducible apply le_size_alloc | with_reducible apply le_size_drewN | with_reducible apply le_size_drew | with_reducible apply le_size_setCell | refine Nat.le_trans ?_ (Below.size (by assumption))))).mono BV.size))
    | true =>
      cases d1 : decide (0 ≤ f ∧ f < 256) with
      | false =>
        have HR : Hid (movM l (p, q) f = ([], 0, 2)) := by show _ = _; unfold movM; rw [hk, if_neg (by simp), if_neg (by simp [okM, d1])]
        clear hk
        go_enter Try.func32, Try.ntmps32
        go_wp2_with (first | (go_at_call 13; refine (RCheck_any A c l _ (HSV.out.ext (by repeat' (first | with_reducible exact Below.refl _ _ | with_reducible assumption | with_reducible apply Below.drew | with_reducible apply below_drewN | with_reducible apply Below.alloc | with_reducible apply Below.setCell | (with_reducible refine Below.trans ?_ (Below.mono (by assumption) ?_)) | (simp; done) | (simp; omega) | omega | with_reducible apply le_size_alloc | with_reducible apply le_size_drewN | with_reducible apply le_size_drew | with_reducible apply le_size_setCell | refine Nat.le_trans ?_ (Below.size (by assumption))))) la HK.out).mono ?_; rintro e w1 ⟨rfl, hb1⟩; have bw1 : Below V.heap.size V w1 := (by repeat' (first | with_reducible exact Below.refl _ _ | with_reducible assumption | with_reducible apply Below.drew | with_reducible apply below_drewN | with_reducible apply Below.alloc | with_reducible apply Below.setCell | (with_reducible refine Below.trans ?_ (Below.mono (by assumption) ?_)) | (simp; done) | (simp; omega) | omega | with_reducible apply le_size_alloc | with_reducible apply le_size_drewN | with_reducible apply le_size_drew | with_reducible apply le_size_setCell | refine Nat.le_trans ?_ (Below.size (by assumption)))); have zw1 := bw1.size; have p0w1 := cell_keep bw1 p0 zV; have p1w1 := cell_keep bw1 p1 zV; have yw1 : w.heap.size < w1.heap.size := Nat.lt_of_lt_of_le zV zw1) | (go_at_call 46; refine (place_b _ _ _ d2 _).mono ?_; rintro e w5 ⟨rfl, hw5⟩; have bw5 : Below V.heap.size V w5 := (by rw [hw5]; exact (by repeat' (first | with_reducible exact Below.refl _ _ | with_reducible assumption | with_reducible apply Below.drew | with_reducible apply below_drewN | with_reducible apply Below.alloc | with_reducible apply Below.setCell | (with_reducible refine Below.trans ?_ (Below.mono (by assumption) ?_)) | (simp; done) | (simp; omega) | omega | with_reducible apply le_size_alloc | with_reducible apply le_size_drewN | with_reducible apply le_size_drew | with_reducible apply le_size_setCell | refine Nat.le_trans ?_ (Below.size (by assumption))))); have p0w5 := cell_keep bw5 p0 zV; have p1w5 := cell_keep bw5 p1 zV; have zw5 := bw5.size; have yw5 : w.heap.size < w5.heap.size := Nat.lt_of_lt_of_le zV zw5; clear hw5) | (go_at_call 45; refine (frame_b _ _ d1 _).mono ?_; rintro e w' ⟨rfl, rfl⟩))
        refine bodyPost_ret (v := .tuple #[.slice none 0 0, .int .i64 0, .int .i64 2]) (by simp [results, Try.results32, go_sem]) rfl ?_
        exact MovPost.bad HR.out (BV.trans ((show Below V.heap.size V _ from (by repeat' (first | with_reducible exact Below.refl _ _ | with_reducible assumption | with_reducible apply Below.drew | with_reducible apply below_drewN | with_reducible apply Below.alloc | with_reducible apply Below.setCell | (with_reducible refine Below.trans ?_ (Below.mono (by assumption) ?_)) | (simp; done) | (simp; omega) | omega | with_reducible apply le_size_alloc | with_reducible apply le_size_drewN | with_reducible apply le_size_drew | with_reducible apply le_size_setCell | refine Nat.le_trans ?_ (Below.size (by assumption))))).mono BV.size))
      | true =>
        have hok : okM (f, p, q) = true := by simp [okM, d1, d2]
        cases hf : findM l (p, q) with
        | none =>
          have hfn : fndM l (p, q) = (0, 6) := by unfold fndM; rw [hk, if_neg (by simp), if_pos d2, hf]
          have HR : Hid (movM l (p, q) f = ([], 0, 6)) := by show _ = _; unfold movM; rw [hk, if_neg (by simp), if_pos hok, hf]
          have HRM : Hid (remM l (p, q) = ([], 0, 0, 6)) := by show _ = _; unfold remM; rw [hfn, if_pos (by simp)]
          clear hk hfn hf
          go_enter Try.func32, Try.ntmps32
          go_wp2_with (first | (go_at_call 13; refine (RCheck_any A c l _ (HSV.out.ext (by repeat' (first | with_reducible exact Below.refl _ _ | with_reducible assumption | with_reducible apply Below.drew | with_reducible apply below_drewN | with_reducible apply Below.alloc | with_reducible apply Below.setCell | (with_reducible refine Below.trans ?_ (Below.mono (by assumption) ?_)) | (simp; done) | (simp; omega) | omega | with_reducible apply le_size_alloc | with_reducible apply le_size_drewN | with_reducible apply le_size_drew | with_reducible apply le_size_setCell | refine Nat.le_trans ?_ (Below.size (by assumption))))) la HK.out).mono ?_; rintro e w1 ⟨rfl, hb1⟩; have bw1 : Below V.heap.size V w1 := (by repeat' (first | with_reducible exact Below.refl _ _ | with_reducible assumption | with_reducible apply Below.drew | with_reducible apply below_drewN | with_reducible apply Below.alloc | with_reducible apply Below.setCell | (with_reducible refine Below.trans ?_ (Below.mono (by assumption) ?_)) | (simp; done) | (simp; omega) | omega | with_reducible apply le_size_alloc | with_reducible apply le_size_drewN | with_reducible apply le_size_drew | with_reducible apply le_size_setCell | refine Nat.le_trans ?_ (Below.size (by assumption)))); have zw1 := bw1.size; have p0w1 := cell_keep bw1 p0 zV; have p1w1 := cell_keep bw1 p1 zV; have yw1 : w.heap.size < w1.heap.size := Nat.lt_of_lt_of_le zV zw1) | (go_at_call 46; refine (place_b _ _ _ d2 _).mono ?_; rintro e w5 ⟨rfl, hw5⟩; have bw5 : Below V.heap.size V w5 := (by rw [hw5]; exact (by repeat' (first | with_reducible exact Below.refl _ _ | with_reducible assumption | with_reducible apply Below.drew | with_reducible apply below_drewN | with_reducible apply Below.alloc | with_reducible apply Below.setCell | (with_reducible refine Below.trans ?_ (Below.mono (by assumption) ?_)) | (simp; done) | (simp; omega) | omega | with_reducible apply le_size_alloc | with_reducible apply le_size_drewN | with_reducible apply le_size_drew | with_reducible apply le_size_setCell | refine Nat.le_trans ?_ (Below.size (by assumption))))); have p0w5 := cell_keep bw5 p0 zV; have p1w5 := cell_keep bw5 p1 zV; have zw5 := bw5.size; have yw5 : w.heap.size < w5.heap.size := Nat.lt_of_lt_of_le zV zw5; clear hw5) | (go_at_call 45; refine (frame_b _ _ d1 _).mono ?_; rintro e w' ⟨rfl, rfl⟩) | (go_at_call 30; refine (RRemove_any A c l p q _ (HSV.out.ext (by repeat' (first | with_reducible exact Below.refl _ _ | with_reducible assumption | with_reducible apply Below.drew | with_reducible apply below_drewN | with_reducible apply Below.alloc | with_reducible apply Below.setCell | (with_reducible refine Below.trans ?_ (Below.mono (by assumption) ?_)) | (simp; done) | (simp; omega) | omega | with_reducible apply le_size_alloc | with_reducible apply le_size_drewN | with_reducible apply le_size_drew | with_reducible apply le_size_setCell | refine Nat.le_trans ?_ (Below.size (by assumption))))) la).mono ?_; unfold RemPost; rw [HRM.out]; rintro e w2 ⟨A2, c2, rfl, hc2, hb2⟩; have bw2 : Below V.heap.size V w2 := (by repeat' (first | with_reducible exact Below.refl _ _ | with_reducible assumption | with_reducible apply Below.drew | with_reducible apply below_drewN | with_reducible apply Below.alloc | with_reducible apply Below.setCell | (with_reducible refine Below.trans ?_ (Below.mono (by assumption) ?_)) | (simp; done) | (simp; omega) | omega | with_reducible apply le_size_alloc | with_reducible apply le_size_drewN | with_reducible apply le_size_drew | with_reducible apply le_size_setCell | refine Nat.le_trans ?_ (Below.size (by assumption)))); have zw2 := bw2.size; have p0w2 := cell_keep bw2 p0 zV; have p1w2 := cell_keep bw2 p1 zV; have yw2 : w.heap.size < w2.heap.size := Nat.lt_of_lt_of_le zV zw2))
          refine bodyPost_ret (v := .tuple #[.slice none 0 0, .int .i64 0, .int .i64 6]) (by simp [results, Try.results32, go_sem]) rfl ?_
          exact MovPost.bad HR.out (BV.trans ((show Below V.heap.size V _ from (by repeat' (first | with_reducible exact Below.refl _ _ | with_reducible assumption | with_reducible apply Below.drew | with_reducible apply below_drewN | with_reducible apply Below.alloc | with_reducible apply Below.setCell | (with_reducible refine Below.trans ?_ (Below.mono (by assumption) ?_)) | (simp; done) | (simp; omega) | omega | with_reducible apply le_size_alloc | with_reducible apply le_size_drewN | with_reducible apply le_size_drew | with_reducible apply le_size_setCell | refine Nat.le_trans ?_ (Below.size (by assumption))))).mono BV.size))
        | some g =>
          have hfn : fndM l (p, q) = (g, 0) := by unfold fndM; rw [hk, if_neg (by simp), if_pos d2, hf]
          have hcn := cntM_le l g
          obtain ⟨D, hD⟩ : ∃ D, delM l (g, p, q) = D := ⟨_, rfl⟩
          obtain ⟨M, hM⟩ : ∃ M, putM D (f, p, q) = M := ⟨_, rfl⟩
          have hDl : D.length ≤ 2000 := by rw [← hD]; have := delM_len l (g, p, q); omega
          have hMl : M.length ≤ 5000 := by rw [← hM, putM_len]; omega
          have HR : Hid (movM l (p, q) f = (M, cntM M g, 0)) := by show _ = _; unfold movM; rw [hk, if_neg (by simp), if_pos hok, hf]; simp only [hD, hM]
          have HRM : Hid (remM l (p, q) = (D, g, cntM l g - 1, 0)) := by show _ = _; unfold remM; rw [hfn, if_neg (by simp)]; simp only [hD]
          have HM := Lib.hid hM
          obtain ⟨N, hN⟩ : ∃ N, cntM M g = N := ⟨_, rfl⟩
          rw [hN] at HR
          have HN := Lib.hid hN
          clear hk hfn hf hD hM hN
          go_enter Try.func32, Try.ntmps32
          go_wp2_with (first | (go_at_call 13; refine (RCheck_any A c l _ (HSV.out.ext (by repeat' (first | with_reducible exact Below.refl _ _ | with_reducible assumption | with_reducible apply Below.drew | with_reducible apply below_drewN | with_reducible apply Below.alloc | with_reducible apply Below.setCell | (with_reducible refine Below.trans ?_ (Below.mono (by assumption) ?_)) | (simp; done) | (simp; omega) | omega | with_reducible apply le_size_alloc | with_reducible apply le_size_drewN | with_reducible apply le_size_drew | with_reducible apply le_size_setCell | refine Nat.le_trans ?_ (Below.size (by assumption))))) la HK.out).mono ?_; rintro e w1 ⟨rfl, hb1⟩; have bw1 : Below V.heap.size V w1 := (by repeat' (first | with_reducible exact Below.refl _ _ | with_reducible assumption | with_reducible apply Below.drew | with_reducible apply below_drewN | with_reducible apply Below.alloc | with_reducible apply Below.setCell | (with_reducible refine Below.trans ?_ (Below.mono (by assumption) ?_)) | (simp; done) | (simp; omega) | omega | with_reducible apply le_size_alloc | with_reducible apply le_size_drewN | with_reducible apply le_size_drew | with_reducible apply le_size_setCell | refine Nat.le_trans ?_ (Below.size (by assumption)))); have zw1 := bw1.size; have p0w1 := cell_keep bw1 p0 zV; have p1w1 := cell_keep bw1 p1 zV; have yw1 : w.heap.size < w1.heap.size := Nat.lt_of_lt_of_le zV zw1) | (go_at_call 46; refine (place_b _ _ _ d2 _).mono ?_; rintro e w5 ⟨rfl, hw5⟩; have bw5 : Below V.heap.size V w5 := (by rw [hw5]; exact (by repeat' (first | with_reducible exact Below.refl _ _ | with_reducible assumption | with_reducible apply Below.drew | with_reducible apply below_drewN | with_reducible apply Below.alloc | with_reducible apply Below.setCell | (with_reducible refine Below.trans ?_ (Below.mono (by assumption) ?_)) | (simp; done) | (simp; omega) | omega | with_reducible apply le_size_alloc | with_reducible apply le_size_drewN | with_reducible apply le_size_drew | with_reducible apply le_size_setCell | refine Nat.le_trans ?_ (Below.size (by assumption))))); have p0w5 := cell_keep bw5 p0 zV; have p1w5 := cell_keep bw5 p1 zV; have zw5 := bw5.size; have yw5 : w.heap.size < w5.heap.size := Nat.lt_of_lt_of_le zV zw5; clear hw5) | (go_at_call 45; refine (frame_b _ _ d1 _).mono ?_; rintro e w' ⟨rfl, rfl⟩) | (go_at_call 30; refine (RRemove_any A c l p q _ (HSV.out.ext (by repeat' (first | with_reducible exact Below.refl _ _ | with_reducible assumption | with_reducible apply Below.drew | with_reducible apply below_drewN | with_reducible apply Below.alloc | with_reducible apply Below.setCell | (with_reducible refine Below.trans ?_ (Below.mono (by assumption) ?_)) | (simp; done) | (simp; omega) | omega | with_reducible apply le_size_alloc | with_reducible apply le_size_drewN | with_reducible apply le_size_drew | with_reducible apply le_size_setCell | refine Nat.le_trans ?_ (Below.size (by assumption))))) la).mono ?_; unfold RemPost; rw [HRM.out]; rintro e w2 ⟨A2, c2, rfl, hc2, hb2⟩; have bw2 : Below V.heap.size V w2 := (by repeat' (first | with_reducible exact Below.refl _ _ | with_reducible assumption | with_reducible apply Below.drew | with_reducible apply below_drewN | with_reducible apply Below.alloc | with_reducible apply Below.setCell | (with_reducible refine Below.trans ?_ (Below.mono (by assumption) ?_)) | (simp; done) | (simp; omega) | omega | with_reducible apply le_size_alloc | with_reducible apply le_size_drewN | with_reducible apply le_size_drew | with_reducible apply le_size_setCell | refine Nat.le_trans ?_ (Below.size (by assumption)))); have zw2 := bw2.size; have p0w2 := cell_keep bw2 p0 zV; have p1w2 := cell_keep bw2 p1 zV; have yw2 : w.heap.size < w2.heap.size := Nat.lt_of_lt_of_le zV zw2) | (go_at_call 58; refine (put_any A2 c2 D (f, p, q) _ hc2 hDl).mono ?_; unfold RowPost; rw [HM.out]; rintro e w6 ⟨A6, c6, rfl, hc6, hb6⟩; have bw6 : Below V.heap.size V w6 := bw2.trans (hb6.mono bw2.size)) | (go_at_call 51; refine (rcount_any A6 c6 M g _ hc6.1 hMl HN.out).mono ?_; rintro e w7 ⟨rfl, hb7⟩))
          refine bodyPost_ret (v := .tuple #[.slice A6 M.length c6, .int .i64 N, .int .i64 0]) (by simp [results, Try.results32, go_sem]) rfl ?_
          unfold MovPost
          rw [HR.out]
          exact ⟨A6, c6, rfl, hc6.ext hb7, BV.trans ((bw6.trans (hb7.mono bw6.size)).mono BV.size)⟩
  · have HR : Hid (movM l (p, q) f = ([], 0, y)) := by show _ = _; unfold movM; rw [hk, if_pos y0]
    have yb : (y != 0) = true := by simpa using y0
    have yc : (y == 0) = false := by simpa using y0
    clear hk
    go_enter Try.func32, Try.ntmps32
    go_wp2_with (first | (go_at_call 13; refine (RCheck_any A c l _ (HSV.out.ext (by repeat' (first | with_reducible exact Below.refl _ _ | with_reducible assumption | with_reducible apply Below.drew | with_reducible apply below_drewN | with_reducible apply Below.alloc | with_reducible apply Below.setCell | (with_reducible refine Below.trans ?_ (Below.mono (by assumption) ?_)) | (simp; done) | (simp; omega) | omega | with_reducible apply le_size_alloc | with_reducible apply le_size_drewN | with_reducible apply le_size_drew | with_reducible apply le_size_setCell | refine Nat.le_trans ?_ (Below.size (by assumption))))) la HK.out).mono ?_; rintro e w1 ⟨rfl, hb1⟩; have bw1 : Below V.heap.size V w1 := (by repeat' (first | with_reducible exact Below.refl _ _ | with_reducible assumption | with_reducible apply Below.drew | with_reducible apply below_drewN | with_reducible apply Below.alloc | with_reducible apply Below.setCell | (with_reducible refine Below.trans ?_ (Below.mono (by assumption) ?_)) | (simp; done) | (simp; omega) | omega | with_reducible apply le_size_alloc | with_reducible apply le_size_drewN | with_reducible apply le_size_drew | with_reducible apply le_size_setCell | refine Nat.le_trans ?_ (Below.size (by assumption)))); have zw1 := bw1.size; have p0w1 := cell_keep bw1 p0 zV; have p1w1 := cell_keep bw1 p1 zV; have yw1 : w.heap.size < w1.heap.size := Nat.lt_of_lt_of_le zV zw1))
    refine bodyPost_ret (v := .tuple #[.slice none 0 0, .int .i64 0, .int .i64 y]) (by simp [results, Try.results32, go_sem]) rfl ?_
    exact MovPost.bad HR.out (BV.trans (bw1.mono BV.size))
end Go.Proofs.Ytbeddhamnefpiaa
