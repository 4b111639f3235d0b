/- Package entry: Pack; Parse at the chapter's texts. Written by gen_oe4.py. -/
import Derived.Test.YtmbpjafiinfkkaaGreatDoorOE3
import Derived.Test.YtmbpjafiinfkkaaGreatDoorFree
import Derived.Lib.ConvBytes
namespace Go.Proofs.YtmbpjafiinfkkaaGreatDoor
set_option linter.unusedSimpArgs false
set_option linter.unusedVariables false
open Go.RowKit Go.Maps

def flgT (a b c : Bool) : Nat := (if a then 1 else 0) + (if b then 2 else 0) + (if c then 4 else 0)
theorem flgT_eq (a b c : Bool) : flgN a b c = ((flgT a b c : Nat) : Int) := by cases a <;> cases b <;> cases c <;> rfl
theorem flgT_lt (a b c : Bool) : flgT a b c < 8 := by cases a <;> cases b <;> cases c <;> decide
/-- The word of an entry. -/
def packN (k n : Nat) (a b c : Bool) : Nat := k + 4 * flgT a b c + 256 * n

set_option maxRecDepth 100000 in
set_option maxHeartbeats 4000000 in
theorem pack_any (k n : Nat) (a b c : Bool) (w : World) (hal : AL w) (hk : k < 4) (hn : n < 256) :
    Calls Tryz.prog 82 #[entV k n a b c] w fun e w' => e = .returned (.int .u64 (packN k n a b c : Nat)) ∧ Below w.heap.size w w' := by
  obtain ⟨f, hf⟩ : ∃ f : Nat, flgT a b c = f := ⟨_, rfl⟩
  have hf8 : f < 8 := by rw [← hf]; exact flgT_lt a b c
  have hF : ∀ w, Calls Tryz.prog 83 #[.agg #[.int .i64 k, .int .i64 n, .bool a, .bool b, .bool c]] w fun e w' => e = .returned (.int .u64 (f : Int)) ∧ Below w.heap.size w w' := fun w => by
    have := flagsOf_any k n a b c w
    rw [flgT_eq, hf] at this
    exact this
  have e1 : IntKind.u64.wrap (k : Int) = k := by rw [IntKind.wrap_u64]; omega
  have e2 : IntKind.u64.wrap (n : Int) = n := by rw [IntKind.wrap_u64]; omega
  have HP : Hid (packN k n a b c = k + 4 * f + 256 * n) := by show _ = _; unfold packN; rw [hf]
  clear hf
  unfold entV
  go_enter Tryz.func82, Tryz.ntmps82
  go_wp2_with fail
  obtain ⟨V, hV⟩ : ∃ V, w.alloc (.cells #[.int .i64 k, .int .i64 n, .bool a, .bool b, .bool c] 63) = V := ⟨_, rfl⟩
  have BV : Below w.heap.size w V := by rw [← hV]; exact (by repeat' (first | with_reducible exact Below.refl _ _ | with_reducible assumption | with_reducible apply Below.drew | with_reducible apply below_drewN | with_reducible apply Below.alloc | with_reducible apply Below.setCell | (with_reducible refine Below.trans ?_ (Below.mono (by assumption) ?_)) | (simp; done) | (simp; omega) | omega | with_reducible apply le_size_alloc | with_reducible apply le_size_drewN | with_reducible apply le_size_drew | with_reducible apply le_size_setCell | refine Nat.le_trans ?_ (Below.size (by assumption))))
  obtain ⟨w0, hw0⟩ : ∃ w0, w.heap.size = w0 := ⟨_, rfl⟩
  have kB : Blk V w0 63 #[.int .i64 k, .int .i64 n, .bool a, .bool b, .bool c] := by rw [← hV, ← hw0]; exact (by repeat' (first | with_reducible assumption | (with_reducible refine Blk.new_ ?_ ?_ <;> first | (simp; done) | rfl) | with_reducible apply Blk.drew_ | with_reducible apply Blk.drewN_ | with_reducible apply Blk.alloc_ | with_reducible refine Blk.far_ ?_ ?_ _ | (with_reducible refine Blk.below_ ?_ (by assumption) ?_) | (simp; done) | (simp; omega) | omega | with_reducible apply le_size_alloc | with_reducible apply lt_size_alloc | with_reducible apply le_size_drewN | with_reducible apply le_size_drew | with_reducible apply le_size_setCell | refine Nat.lt_of_lt_of_le ?_ (Below.size (by assumption)) | refine Nat.le_trans ?_ (Below.size (by assumption))))
  rw [hV]
  simp only [hw0]
  have hVz : w.heap.size ≤ V.heap.size := BV.size
  clear hV
  refine wp_region_chain [.is ?f0, .is ?f1, .is (.int .u64 k), .is ?f3, .is (.int .u64 f), .is ?f5, .is ?f6, .is (.int .u64 n), .has (LitS 38 3 [.int .u64 k, .int .u64 f, .int .u64 n]), .is (.int .u64 ((k + 4 * f + 256 * n : Nat) : Int)), .is ?f10] (by kernel_rfl) (by kernel_rfl) (by kernel_rfl) (lasts_is (lasts_is (lasts_is (lasts_is (lasts_is (lasts_is (lasts_is (lasts_is (lasts_has (LitS.lasts _ _ _) (lasts_is (lasts_is lasts_nil))))))))))) (fun W0 hb0 hz0 => ?_)
  rotate_left 6
  have kB0 := kB.below_ hb0 kB.lt
  have hBz : w0 < W0.heap.size := kB0.lt
  have hb00 : Below w.heap.size w W0 := BV.trans (hb0.mono hVz)
  refine chain_is (step_take (by rfl) ?y0) ?r0
  case y0 =>
    intro w hbw hd
    clear hd
    go_simp
    first | done | with_reducible rfl
  (try simp only [Act.put, List.setIfInBounds_toArray, List.set_cons_zero, List.set_cons_succ, List.nil_append, List.cons_append])
  refine chain_is (step_take (by rfl) ?y1) ?r1
  case y1 =>
    intro w hbw hd
    have kw : Blk w w0 63 #[.int .i64 k, .int .i64 n, .bool a, .bool b, .bool c] := kB0.below_ hbw hBz
    have q0 := kw.cell_ 0
    simp at q0
    clear hd
    go_simp
    first | done | with_reducible rfl
  (try simp only [Act.put, List.setIfInBounds_toArray, List.set_cons_zero, List.set_cons_succ, List.nil_append, List.cons_append])
  refine chain_is (step_take (by rfl) ?y2) ?r2
  case y2 =>
    intro w hbw hd
    clear hd
    go_simp
    first | done | rfl | (simp [e1])
  (try simp only [Act.put, List.setIfInBounds_toArray, List.set_cons_zero, List.set_cons_succ, List.nil_append, List.cons_append])
  refine chain_is (step_take (by rfl) ?y3) ?r3
  case y3 =>
    intro w hbw hd
    have kw : Blk w w0 63 #[.int .i64 k, .int .i64 n, .bool a, .bool b, .bool c] := kB0.below_ hbw hBz
    have q0 := kw.cell_ 0
    have q1 := kw.cell_ 1
    have q2 := kw.cell_ 2
    have q3 := kw.cell_ 3
    have q4 := kw.cell_ 4
    simp at q0 q1 q2 q3 q4
    clear hd
    go_simp
    first | done | with_reducible rfl
  (try simp only [Act.put, List.setIfInBounds_toArray, List.set_cons_zero, List.set_cons_succ, List.nil_append, List.cons_append])
  refine chain_is ?s4 ?r4
  case s4 =>
    intro w hbw hd K Q' hK
    clear hd
    go_simp
    refine (hF _).mono ?_
    rintro e w1 ⟨rfl, hb1⟩
    refine hK.out (.int .u64 f) _ _ ?_ ?_ rfl
    · (simp only [Act.put, List.setIfInBounds_toArray, List.set_cons_zero, List.set_cons_succ, List.nil_append, List.cons_append])
    · exact (by repeat' (first | with_reducible exact Below.refl _ _ | with_reducible assumption | with_reducible apply Below.drew | with_reducible apply below_drewN | with_reducible apply Below.alloc | with_reducible apply Below.setCell | (with_reducible refine Below.trans ?_ (Below.mono (by assumption) ?_)) | (simp; done) | (simp; omega) | omega | with_reducible apply le_size_alloc | with_reducible apply le_size_drewN | with_reducible apply le_size_drew | with_reducible apply le_size_setCell | with_reducible refine Nat.le_trans ?_ (Below.size (by assumption))))
  (try simp only [Act.put, List.setIfInBounds_toArray, List.set_cons_zero, List.set_cons_succ, List.nil_append, List.cons_append])
  refine chain_is (step_take (by rfl) ?y5) ?r5
  case y5 =>
    intro w hbw hd
    clear hd
    go_simp
    first | done | with_reducible rfl
  (try simp only [Act.put, List.setIfInBounds_toArray, List.set_cons_zero, List.set_cons_succ, List.nil_append, List.cons_append])
  refine chain_is (step_take (by rfl) ?y6) ?r6
  case y6 =>
    intro w hbw hd
    have kw : Blk w w0 63 #[.int .i64 k, .int .i64 n, .bool a, .bool b, .bool c] := kB0.below_ hbw hBz
    have q1 := kw.cell_ 1
    simp at q1
    clear hd
    go_simp
    first | done | with_reducible rfl
  (try simp only [Act.put, List.setIfInBounds_toArray, List.set_cons_zero, List.set_cons_succ, List.nil_append, List.cons_append])
  refine chain_is (step_take (by rfl) ?y7) ?r7
  case y7 =>
    intro w hbw hd
    clear hd
    go_simp
    first | done | rfl | (simp [e2])
  (try simp only [Act.put, List.setIfInBounds_toArray, List.set_cons_zero, List.set_cons_succ, List.nil_append, List.cons_append])
  refine chain_has ?s8 (fun v8 => ?r8)
  case s8 =>
    intro w hbw hd K Q' hK
    clear hd
    go_simp
    refine hK.out (.slice (some ⟨w.heap.size, 0, none⟩) 3 3) _ _ ?_ ?_ ?_
    · (simp only [Act.put, List.setIfInBounds_toArray, List.set_cons_zero, List.set_cons_succ, List.nil_append, List.cons_append])
    · exact (by repeat' (first | with_reducible exact Below.refl _ _ | with_reducible assumption | with_reducible apply Below.drew | with_reducible apply below_drewN | with_reducible apply Below.alloc | with_reducible apply Below.setCell | (with_reducible refine Below.trans ?_ (Below.mono (by assumption) ?_)) | (simp; done) | (simp; omega) | omega | with_reducible apply le_size_alloc | with_reducible apply le_size_drewN | with_reducible apply le_size_drew | with_reducible apply le_size_setCell | with_reducible refine Nat.le_trans ?_ (Below.size (by assumption))))
    · exact ⟨_, rfl, (by repeat' (first | with_reducible assumption | (with_reducible refine Blk.new_ ?_ ?_ <;> first | (simp; done) | rfl) | with_reducible apply Blk.drew_ | with_reducible apply Blk.drewN_ | with_reducible apply Blk.alloc_ | with_reducible refine Blk.far_ ?_ ?_ _ | (with_reducible refine Blk.below_ ?_ (by assumption) ?_) | (simp; done) | (simp; omega) | omega | with_reducible apply le_size_alloc | with_reducible apply lt_size_alloc | with_reducible apply le_size_drewN | with_reducible apply le_size_drew | with_reducible apply le_size_setCell | refine Nat.lt_of_lt_of_le ?_ (Below.size (by assumption)) | refine Nat.le_trans ?_ (Below.size (by assumption))))⟩
  (try simp only [Act.put, List.setIfInBounds_toArray, List.set_cons_zero, List.set_cons_succ, List.nil_append, List.cons_append])
  refine chain_is ?s9 ?r9
  case s9 =>
    intro w hbw hd K Q' hK
    obtain ⟨g, e, kg⟩ : LitS _ _ _ _ _ := hd 8 _ _ (by rfl) rfl rfl
    subst e
    have wa : AL w := hal.ext (hb00.trans (hbw.mono (by omega)))
    clear hd
    go_simp
    refine (word_any k f n _ _ _ wa hk hf8 hn (Sl.of_lit kg)).mono ?_
    rintro e w1 ⟨rfl, hb1⟩
    refine hK.out (.int .u64 ((k + 4 * f + 256 * n : Nat) : Int)) _ _ ?_ ?_ rfl
    · (simp only [Act.put, List.setIfInBounds_toArray, List.set_cons_zero, List.set_cons_succ, List.nil_append, List.cons_append])
    · exact (by repeat' (first | with_reducible exact Below.refl _ _ | with_reducible assumption | with_reducible apply Below.drew | with_reducible apply below_drewN | with_reducible apply Below.alloc | with_reducible apply Below.setCell | (with_reducible refine Below.trans ?_ (Below.mono (by assumption) ?_)) | (simp; done) | (simp; omega) | omega | with_reducible apply le_size_alloc | with_reducible apply le_size_drewN | with_reducible apply le_size_drew | with_reducible apply le_size_setCell | with_reducible refine Nat.le_trans ?_ (Below.size (by assumption))))
  (try simp only [Act.put, List.setIfInBounds_toArray, List.set_cons_zero, List.set_cons_succ, List.nil_append, List.cons_append])
  refine chain_is (step_take (by rfl) ?y10) ?r10
  case y10 =>
    intro w hbw hd
    clear hd
    go_simp
    first | done | with_reducible rfl
  (try simp only [Act.put, List.setIfInBounds_toArray, List.set_cons_zero, List.set_cons_succ, List.nil_append, List.cons_append])
  refine chain_end (fun wz hbz hd => ?_)
  have BZ : Below w.heap.size w wz := hb00.trans (hbz.mono (by omega))
  clear hd
  go_wp2
  refine bodyPost_ret (v := .int .u64 (packN k n a b c : Nat)) (by simp [results, Tryz.results82, go_sem, HP.out]) rfl ?_
  exact ⟨rfl, BZ⟩

set_option maxRecDepth 100000 in
set_option maxHeartbeats 4000000 in
theorem Pack_any (k n : Nat) (a b c : Bool) (w : World) (hal : AL w) (hz : chkE k n a b c = 0) :
    Calls Tryz.prog 56 #[entV k n a b c] w fun e w' => e = .returned (.tuple #[.int .u64 (packN k n a b c : Nat), .int .i64 0]) ∧ Below w.heap.size w w' := by
  have hk : k < 4 := by
    rcases Nat.lt_or_ge k 4 with h | h
    · exact h
    · unfold chkE at hz; rw [if_pos (by omega)] at hz; simp at hz
  have hn : n < 256 := by
    rcases Nat.lt_or_ge n 256 with h | h
    · exact h
    · unfold chkE at hz
      split at hz
      · simp at hz
      · rw [if_pos (by omega)] at hz; simp at hz
  have HZ := Lib.hid hz
  clear hz
  unfold entV
  go_enter Tryz.func56, Tryz.ntmps56
  go_wp2_with fail
  refine (eCheck_any k n a b c _ (hal.ext (by repeat' (first | with_reducible exact Below.refl _ _ | with_reducible assumption | with_reducible apply Below.drew | with_reducible apply below_drewN | with_reducible apply Below.alloc | with_reducible apply Below.setCell | (with_reducible refine Below.trans ?_ (Below.mono (by assumption) ?_)) | (simp; done) | (simp; omega) | omega | with_reducible apply le_size_alloc | with_reducible apply le_size_drewN | with_reducible apply le_size_drew | with_reducible apply le_size_setCell | refine Nat.le_trans ?_ (Below.size (by assumption)))))).mono ?_
  rw [HZ.out]
  rintro e w1 ⟨rfl, hb1⟩
  have kB : Blk w1 w.heap.size 63 #[.int .i64 k, .int .i64 n, .bool a, .bool b, .bool c] := (Blk.new_ rfl rfl).below_ hb1 (by simp)
  have w1a : AL w1 := hal.ext (by repeat' (first | with_reducible exact Below.refl _ _ | with_reducible assumption | with_reducible apply Below.drew | with_reducible apply below_drewN | with_reducible apply Below.alloc | with_reducible apply Below.setCell | (with_reducible refine Below.trans ?_ (Below.mono (by assumption) ?_)) | (simp; done) | (simp; omega) | omega | with_reducible apply le_size_alloc | with_reducible apply le_size_drewN | with_reducible apply le_size_drew | with_reducible apply le_size_setCell | refine Nat.le_trans ?_ (Below.size (by assumption))))
  have r0 := kB.cell_ 0
  have r1 := kB.cell_ 1
  have r2 := kB.cell_ 2
  have r3 := kB.cell_ 3
  have r4 := kB.cell_ 4
  simp at r0 r1 r2 r3 r4
  go_wp2_with fail
  refine (pack_any k n a b c _ w1a hk hn).mono ?_
  rintro e w2 ⟨rfl, hb2⟩
  go_wp2
  refine bodyPost_ret (v := .tuple #[.int .u64 (packN k n a b c : Nat), .int .i64 0]) (by simp [results, Tryz.results56, go_sem]) rfl ?_
  exact ⟨rfl, (by repeat' (first | with_reducible exact Below.refl _ _ | with_reducible assumption | with_reducible apply Below.drew | with_reducible apply below_drewN | with_reducible apply Below.alloc | with_reducible apply Below.setCell | (with_reducible refine Below.trans ?_ (Below.mono (by assumption) ?_)) | (simp; done) | (simp; omega) | omega | with_reducible apply le_size_alloc | with_reducible apply le_size_drewN | with_reducible apply le_size_drew | with_reducible apply le_size_setCell | refine Nat.le_trans ?_ (Below.size (by assumption))))⟩

set_option maxHeartbeats 2000000 in
theorem hasPre (s p : ByteArray) (n : Nat) (w : World) (hs : s.size = n) (h1 : 1 ≤ n) (hm : n ≤ 100) (hp : p.size = 1) : Calls Tryz.prog 120 #[.string s, .string p] w fun e w' => e = .returned (.bool ((s.extract 0 1).toList == p.toList)) ∧ w = w' := by
  go_enter Tryz.func120, Tryz.ntmps120
  go_wp2
  refine bodyPost_ret (v := .bool ((s.extract 0 1).toList == p.toList)) (by simp [results, Tryz.results120, go_sem]) rfl ?_
  exact ⟨rfl, rfl⟩
set_option maxHeartbeats 2000000 in
theorem hasSuf (s p : ByteArray) (n : Nat) (w : World) (hs : s.size = n + 1) (hm : n ≤ 100) (hp : p.size = 1) : Calls Tryz.prog 121 #[.string s, .string p] w fun e w' => e = .returned (.bool ((s.extract n (n + 1)).toList == p.toList)) ∧ w = w' := by
  go_enter Tryz.func121, Tryz.ntmps121
  go_wp2
  refine bodyPost_ret (v := .bool ((s.extract n (n + 1)).toList == p.toList)) (by simp [results, Tryz.results121, go_sem]) rfl ?_
  exact ⟨rfl, rfl⟩

set_option maxHeartbeats 2000000 in
theorem lCutPrefixY (s p : ByteArray) (t : ByteArray) (n : Nat) (w : World) (hs : s.size = n) (h1 : 1 ≤ n) (hm : n ≤ 100) (hp : p.size = 1) (he : ((s.extract 0 1).toList == p.toList) = true) (ht : s.extract 1 n = t) : Calls Tryz.prog 103 #[.string s, .string p] w fun e w' => e = .returned (.tuple #[.string t, .bool true]) ∧ w = w' := by
  have HE := Lib.hid he
  clear he
  go_enter Tryz.func103, Tryz.ntmps103
  go_wp2_with fail
  refine (hasPre s p n _ hs h1 hm hp).mono ?_
  rw [HE.out]
  rintro e w' ⟨rfl, rfl⟩
  go_wp2
  refine bodyPost_ret (v := .tuple #[.string t, .bool true]) (by simp [results, Tryz.results103, go_sem, ht]) rfl ?_
  exact ⟨rfl, rfl⟩

set_option maxHeartbeats 2000000 in
theorem lCutPrefixN (s p : ByteArray) (n : Nat) (w : World) (hs : s.size = n) (h1 : 1 ≤ n) (hm : n ≤ 100) (hp : p.size = 1) (he : ((s.extract 0 1).toList == p.toList) = false) : Calls Tryz.prog 103 #[.string s, .string p] w fun e w' => e = .returned (.tuple #[.string s, .bool false]) ∧ w = w' := by
  have HE := Lib.hid he
  clear he
  go_enter Tryz.func103, Tryz.ntmps103
  go_wp2_with fail
  refine (hasPre s p n _ hs h1 hm hp).mono ?_
  rw [HE.out]
  rintro e w' ⟨rfl, rfl⟩
  go_wp2
  refine bodyPost_ret (v := .tuple #[.string s, .bool false]) (by simp [results, Tryz.results103, go_sem]) rfl ?_
  exact ⟨rfl, rfl⟩

set_option maxHeartbeats 2000000 in
theorem sCutPrefixY (s p : ByteArray) (t : ByteArray) (n : Nat) (w : World) (hs : s.size = n) (h1 : 1 ≤ n) (hm : n ≤ 100) (hp : p.size = 1) (he : ((s.extract 0 1).toList == p.toList) = true) (ht : s.extract 1 n = t) : Calls Tryz.prog 79 #[.string s, .string p] w fun e w' => e = .returned (.tuple #[.string t, .bool true]) ∧ w = w' := by
  have HE := Lib.hid he
  clear he
  go_enter Tryz.func79, Tryz.ntmps79
  go_wp2_with fail
  refine (lCutPrefixY s p t n _ hs h1 hm hp HE.out ht).mono ?_
  rintro e w' ⟨rfl, rfl⟩
  go_wp2
  refine bodyPost_ret (v := .tuple #[.string t, .bool true]) (by simp [results, Tryz.results79, go_sem]) rfl ?_
  exact ⟨rfl, rfl⟩

set_option maxHeartbeats 2000000 in
theorem sCutPrefixN (s p : ByteArray) (n : Nat) (w : World) (hs : s.size = n) (h1 : 1 ≤ n) (hm : n ≤ 100) (hp : p.size = 1) (he : ((s.extract 0 1).toList == p.toList) = false) : Calls Tryz.prog 79 #[.string s, .string p] w fun e w' => e = .returned (.tuple #[.string s, .bool false]) ∧ w = w' := by
  have HE := Lib.hid he
  clear he
  go_enter Tryz.func79, Tryz.ntmps79
  go_wp2_with fail
  refine (lCutPrefixN s p n _ hs h1 hm hp HE.out).mono ?_
  rintro e w' ⟨rfl, rfl⟩
  go_wp2
  refine bodyPost_ret (v := .tuple #[.string s, .bool false]) (by simp [results, Tryz.results79, go_sem]) rfl ?_
  exact ⟨rfl, rfl⟩

set_option maxHeartbeats 2000000 in
theorem lCutSuffixY (s p : ByteArray) (t : ByteArray) (n : Nat) (w : World) (hs : s.size = n + 1) (hm : n ≤ 100) (hp : p.size = 1) (he : ((s.extract n (n + 1)).toList == p.toList) = true) (ht : s.extract 0 n = t) : Calls Tryz.prog 104 #[.string s, .string p] w fun e w' => e = .returned (.tuple #[.string t, .bool true]) ∧ w = w' := by
  have HE := Lib.hid he
  clear he
  go_enter Tryz.func104, Tryz.ntmps104
  go_wp2_with fail
  refine (hasSuf s p n _ hs hm hp).mono ?_
  rw [HE.out]
  rintro e w' ⟨rfl, rfl⟩
  go_wp2
  refine bodyPost_ret (v := .tuple #[.string t, .bool true]) (by simp [results, Tryz.results104, go_sem, ht]) rfl ?_
  exact ⟨rfl, rfl⟩

set_option maxHeartbeats 2000000 in
theorem lCutSuffixN (s p : ByteArray) (n : Nat) (w : World) (hs : s.size = n + 1) (hm : n ≤ 100) (hp : p.size = 1) (he : ((s.extract n (n + 1)).toList == p.toList) = false) : Calls Tryz.prog 104 #[.string s, .string p] w fun e w' => e = .returned (.tuple #[.string s, .bool false]) ∧ w = w' := by
  have HE := Lib.hid he
  clear he
  go_enter Tryz.func104, Tryz.ntmps104
  go_wp2_with fail
  refine (hasSuf s p n _ hs hm hp).mono ?_
  rw [HE.out]
  rintro e w' ⟨rfl, rfl⟩
  go_wp2
  refine bodyPost_ret (v := .tuple #[.string s, .bool false]) (by simp [results, Tryz.results104, go_sem]) rfl ?_
  exact ⟨rfl, rfl⟩

set_option maxHeartbeats 2000000 in
theorem sCutSuffixY (s p : ByteArray) (t : ByteArray) (n : Nat) (w : World) (hs : s.size = n + 1) (hm : n ≤ 100) (hp : p.size = 1) (he : ((s.extract n (n + 1)).toList == p.toList) = true) (ht : s.extract 0 n = t) : Calls Tryz.prog 80 #[.string s, .string p] w fun e w' => e = .returned (.tuple #[.string t, .bool true]) ∧ w = w' := by
  have HE := Lib.hid he
  clear he
  go_enter Tryz.func80, Tryz.ntmps80
  go_wp2_with fail
  refine (lCutSuffixY s p t n _ hs hm hp HE.out ht).mono ?_
  rintro e w' ⟨rfl, rfl⟩
  go_wp2
  refine bodyPost_ret (v := .tuple #[.string t, .bool true]) (by simp [results, Tryz.results80, go_sem]) rfl ?_
  exact ⟨rfl, rfl⟩

set_option maxHeartbeats 2000000 in
theorem sCutSuffixN (s p : ByteArray) (n : Nat) (w : World) (hs : s.size = n + 1) (hm : n ≤ 100) (hp : p.size = 1) (he : ((s.extract n (n + 1)).toList == p.toList) = false) : Calls Tryz.prog 80 #[.string s, .string p] w fun e w' => e = .returned (.tuple #[.string s, .bool false]) ∧ w = w' := by
  have HE := Lib.hid he
  clear he
  go_enter Tryz.func80, Tryz.ntmps80
  go_wp2_with fail
  refine (lCutSuffixN s p n _ hs hm hp HE.out).mono ?_
  rintro e w' ⟨rfl, rfl⟩
  go_wp2
  refine bodyPost_ret (v := .tuple #[.string s, .bool false]) (by simp [results, Tryz.results80, go_sem]) rfl ?_
  exact ⟨rfl, rfl⟩

/-- One digit. -/
theorem below_bytes (w : World) (e : TypeId) (s : ByteArray) : Below w.heap.size w (Lib.bytesWorld w e s) :=
  ⟨rfl, rfl, rfl, by rw [Lib.bytesWorld_size]; omega, fun k hk => Lib.bytesWorld_at_old w e s k hk⟩

set_option maxRecDepth 100000 in
set_option maxHeartbeats 4000000 in
theorem number1 (w : World) : Calls Tryz.prog 81 #[.string ⟨#[49]⟩] w fun e w' => e = .returned (.tuple #[.int .i64 1, .bool true]) ∧ Below w.heap.size w w' := by
  have hcv := Lib.run_convert_string_bytes (P := Tryz.prog) w 9 146 5 ⟨#[49]⟩ Tryz.underlying9 Tryz.underlying146 Tryz.underlying5
  have hc := Lib.bytesWorld_cell w 5 ⟨#[49]⟩ 0 (by decide)
  have hb := below_bytes w 5 ⟨#[49]⟩
  have hz := Lib.bytesWorld_size w 5 ⟨#[49]⟩
  generalize Lib.bytesWorld w 5 ⟨#[49]⟩ = V at hcv hc hb hz
  have hc' : V.cell? ⟨w.heap.size, 0, none⟩ = some (.int .u8 49) := hc
  have hz' : w.heap.size < V.heap.size := by omega
  clear hc hz
  go_enter Tryz.func81, Tryz.ntmps81
  go_wp2
  refine wp_loop_rounds 2 ?_
  rw [rounds_succ]
  go_wp2
  rw [rounds_succ]
  go_wp2
  refine bodyPost_ret (v := .tuple #[.int .i64 1, .bool true]) (by simp [results, Tryz.results81, go_sem]) rfl ?_
  exact ⟨rfl, (by repeat' (first | with_reducible exact Below.refl _ _ | with_reducible assumption | with_reducible apply Below.drew | with_reducible apply below_drewN | with_reducible apply Below.alloc | with_reducible apply Below.setCell | (with_reducible refine Below.trans ?_ (Below.mono (by assumption) ?_)) | (simp; done) | (simp; omega) | omega | with_reducible apply le_size_alloc | with_reducible apply le_size_drewN | with_reducible apply le_size_drew | with_reducible apply le_size_setCell | refine Nat.le_trans ?_ (Below.size (by assumption))))⟩

set_option maxRecDepth 100000 in
set_option maxHeartbeats 4000000 in
theorem number2 (w : World) : Calls Tryz.prog 81 #[.string ⟨#[50]⟩] w fun e w' => e = .returned (.tuple #[.int .i64 2, .bool true]) ∧ Below w.heap.size w w' := by
  have hcv := Lib.run_convert_string_bytes (P := Tryz.prog) w 9 146 5 ⟨#[50]⟩ Tryz.underlying9 Tryz.underlying146 Tryz.underlying5
  have hc := Lib.bytesWorld_cell w 5 ⟨#[50]⟩ 0 (by decide)
  have hb := below_bytes w 5 ⟨#[50]⟩
  have hz := Lib.bytesWorld_size w 5 ⟨#[50]⟩
  generalize Lib.bytesWorld w 5 ⟨#[50]⟩ = V at hcv hc hb hz
  have hc' : V.cell? ⟨w.heap.size, 0, none⟩ = some (.int .u8 50) := hc
  have hz' : w.heap.size < V.heap.size := by omega
  clear hc hz
  go_enter Tryz.func81, Tryz.ntmps81
  go_wp2
  refine wp_loop_rounds 2 ?_
  rw [rounds_succ]
  go_wp2
  rw [rounds_succ]
  go_wp2
  refine bodyPost_ret (v := .tuple #[.int .i64 2, .bool true]) (by simp [results, Tryz.results81, go_sem]) rfl ?_
  exact ⟨rfl, (by repeat' (first | with_reducible exact Below.refl _ _ | with_reducible assumption | with_reducible apply Below.drew | with_reducible apply below_drewN | with_reducible apply Below.alloc | with_reducible apply Below.setCell | (with_reducible refine Below.trans ?_ (Below.mono (by assumption) ?_)) | (simp; done) | (simp; omega) | omega | with_reducible apply le_size_alloc | with_reducible apply le_size_drewN | with_reducible apply le_size_drew | with_reducible apply le_size_setCell | refine Nat.le_trans ?_ (Below.size (by assumption))))⟩

set_option maxRecDepth 100000 in
set_option maxHeartbeats 4000000 in
theorem number3 (w : World) : Calls Tryz.prog 81 #[.string ⟨#[51]⟩] w fun e w' => e = .returned (.tuple #[.int .i64 3, .bool true]) ∧ Below w.heap.size w w' := by
  have hcv := Lib.run_convert_string_bytes (P := Tryz.prog) w 9 146 5 ⟨#[51]⟩ Tryz.underlying9 Tryz.underlying146 Tryz.underlying5
  have hc := Lib.bytesWorld_cell w 5 ⟨#[51]⟩ 0 (by decide)
  have hb := below_bytes w 5 ⟨#[51]⟩
  have hz := Lib.bytesWorld_size w 5 ⟨#[51]⟩
  generalize Lib.bytesWorld w 5 ⟨#[51]⟩ = V at hcv hc hb hz
  have hc' : V.cell? ⟨w.heap.size, 0, none⟩ = some (.int .u8 51) := hc
  have hz' : w.heap.size < V.heap.size := by omega
  clear hc hz
  go_enter Tryz.func81, Tryz.ntmps81
  go_wp2
  refine wp_loop_rounds 2 ?_
  rw [rounds_succ]
  go_wp2
  rw [rounds_succ]
  go_wp2
  refine bodyPost_ret (v := .tuple #[.int .i64 3, .bool true]) (by simp [results, Tryz.results81, go_sem]) rfl ?_
  exact ⟨rfl, (by repeat' (first | with_reducible exact Below.refl _ _ | with_reducible assumption | with_reducible apply Below.drew | with_reducible apply below_drewN | with_reducible apply Below.alloc | with_reducible apply Below.setCell | (with_reducible refine Below.trans ?_ (Below.mono (by assumption) ?_)) | (simp; done) | (simp; omega) | omega | with_reducible apply le_size_alloc | with_reducible apply le_size_drewN | with_reducible apply le_size_drew | with_reducible apply le_size_setCell | refine Nat.le_trans ?_ (Below.size (by assumption))))⟩

set_option maxRecDepth 100000 in
set_option maxHeartbeats 4000000 in
theorem number4 (w : World) : Calls Tryz.prog 81 #[.string ⟨#[52]⟩] w fun e w' => e = .returned (.tuple #[.int .i64 4, .bool true]) ∧ Below w.heap.size w w' := by
  have hcv := Lib.run_convert_string_bytes (P := Tryz.prog) w 9 146 5 ⟨#[52]⟩ Tryz.underlying9 Tryz.underlying146 Tryz.underlying5
  have hc := Lib.bytesWorld_cell w 5 ⟨#[52]⟩ 0 (by decide)
  have hb := below_bytes w 5 ⟨#[52]⟩
  have hz := Lib.bytesWorld_size w 5 ⟨#[52]⟩
  generalize Lib.bytesWorld w 5 ⟨#[52]⟩ = V at hcv hc hb hz
  have hc' : V.cell? ⟨w.heap.size, 0, none⟩ = some (.int .u8 52) := hc
  have hz' : w.heap.size < V.heap.size := by omega
  clear hc hz
  go_enter Tryz.func81, Tryz.ntmps81
  go_wp2
  refine wp_loop_rounds 2 ?_
  rw [rounds_succ]
  go_wp2
  rw [rounds_succ]
  go_wp2
  refine bodyPost_ret (v := .tuple #[.int .i64 4, .bool true]) (by simp [results, Tryz.results81, go_sem]) rfl ?_
  exact ⟨rfl, (by repeat' (first | with_reducible exact Below.refl _ _ | with_reducible assumption | with_reducible apply Below.drew | with_reducible apply below_drewN | with_reducible apply Below.alloc | with_reducible apply Below.setCell | (with_reducible refine Below.trans ?_ (Below.mono (by assumption) ?_)) | (simp; done) | (simp; omega) | omega | with_reducible apply le_size_alloc | with_reducible apply le_size_drewN | with_reducible apply le_size_drew | with_reducible apply le_size_setCell | refine Nat.le_trans ?_ (Below.size (by assumption))))⟩
end Go.Proofs.YtmbpjafiinfkkaaGreatDoor
