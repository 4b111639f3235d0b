/- RmapChanges: the statement holds for every list of mappings. Written by gen_lm.py. -/
import Derived.Test.YtbeddhamnefpiaaRL2
namespace Go.Proofs.Ytbeddhamnefpiaa
set_option linter.unusedSimpArgs false
set_option linter.unusedVariables false
open Go.RowKit Go.Maps
open Go.ChangeShapes Go.WideShapes Go.ChangeAt Go.Joins Go.Deep

set_option maxRecDepth 100000 in
set_option maxHeartbeats 4000000 in
theorem rmapChanges_walk (A : Option Addr) (c : Nat) (l : List M3) (f p q : Int) (w : World) (ha : CR mapE w A c l) (hl0 : l.length ≤ maxLen) (_h0 : (Lit.int .i64 f).wf = true) (_h1 : (Lit.int .i64 p).wf = true) (_h2 : (Lit.int .i64 q).wf = true) :
    Calls Try.prog 5 #[.slice A l.length c, .int .i64 f, .agg #[.int .i64 p, .int .i64 q]] w fun e w' => e = .returned (.bool true) ∧ Below w.heap.size w w' := by
  have hl : l.length ≤ 9223372036854775807 := by unfold maxLen at hl0; exact hl0
  by_cases h80 : 80 < l.length
  · have h80' : (80 : Int) < l.length := by omega
    clear ha
    go_enter Try.func5, Try.ntmps5
    go_wp2_with fail
    refine (awake_any _).mono ?_
    rintro e w2 ⟨rfl, hb2⟩
    go_wp2_with fail
    go_ret
    exact ⟨rfl, (by repeat' (first | with_reducible exact Below.refl _ _ | with_reducible assumption | with_reducible apply Below.drew | with_reducible apply below_drewN | with_reducible apply Below.alloc | with_reducible apply Below.setCell | (with_reducible refine Below.trans ?_ (Below.mono (by assumption) ?_)) | (simp; done) | (simp; omega) | omega | with_reducible apply le_size_alloc | with_reducible apply le_size_drewN | with_reducible apply le_size_drew | with_reducible apply le_size_setCell | refine Nat.le_trans ?_ (Below.size (by assumption))))⟩
  · have h80' : (l.length : Int) ≤ 80 := by omega
    have h80'' : ¬ ((80 : Int) < l.length) := by omega
    have hlc := ha.2
    have la : l.length ≤ 1000 := by omega
    obtain ⟨⟨La, za⟩, hD⟩ : ∃ r, addM l f (p, q) = r := ⟨_, rfl⟩
    obtain ⟨⟨Lr, fr, nr, zr⟩, hR⟩ : ∃ r, remM l (p, q) = r := ⟨_, rfl⟩
    obtain ⟨⟨Lm, om, zm⟩, hM⟩ : ∃ r, movM l (p, q) f = r := ⟨_, rfl⟩
    obtain ⟨⟨Ld, Lp, zd⟩, hP⟩ : ∃ r, drpM l f = r := ⟨_, rfl⟩
    have l1 : La.length ≤ 1000 := by have h := congrArg (fun r => r.1.length) hD; simp only at h; rw [← h]; have := addM_len l f (p, q); omega
    have l2 : Lr.length ≤ 1000 := by have h := congrArg (fun r => r.1.length) hR; simp only at h; rw [← h]; have := remM_len l (p, q); omega
    have l3 : Lm.length ≤ 1000 := by have h := congrArg (fun r => r.1.length) hM; simp only at h; rw [← h]; have := movM_len l (p, q) f; omega
    have l4 : Ld.length ≤ 1000 := by have h := congrArg (fun r => r.1.length) hP; simp only at h; rw [← h]; have := (drpM_len l f).1; omega
    have l5 : Lp.length ≤ 1000 := by have h := congrArg (fun r => r.2.1.length) hP; simp only at h; rw [← h]; have := (drpM_len l f).2; omega
    have HD := Lib.hid hD; have HR := Lib.hid hR; have HM := Lib.hid hM; have HP := Lib.hid hP
    clear hD hR hM hP
    obtain ⟨V, hV⟩ : ∃ V, w.alloc (.cells #[.int .i64 p, .int .i64 q] 24) = V := ⟨_, rfl⟩
    have b : Below w.heap.size w V := by rw [← hV]; exact (by repeat' (first | with_reducible exact Below.refl _ _ | with_reducible assumption | with_reducible apply Below.drew | with_reducible apply below_drewN | with_reducible apply Below.alloc | with_reducible apply Below.setCell | (with_reducible refine Below.trans ?_ (Below.mono (by assumption) ?_)) | (simp; done) | (simp; omega) | omega | with_reducible apply le_size_alloc | with_reducible apply le_size_drewN | with_reducible apply le_size_drew | with_reducible apply le_size_setCell | refine Nat.le_trans ?_ (Below.size (by assumption))))
    have KB : Hid (Blk V w.heap.size 24 #[.int .i64 p, .int .i64 q]) := by show Blk _ _ _ _; rw [← hV]; exact (by repeat' (first | with_reducible assumption | (with_reducible refine Blk.new_ ?_ ?_ <;> first | (simp; done) | rfl) | with_reducible apply Blk.drew_ | with_reducible apply Blk.drewN_ | with_reducible apply Blk.alloc_ | with_reducible refine Blk.far_ ?_ ?_ _ | (with_reducible refine Blk.below_ ?_ (by assumption) ?_) | (simp; done) | (simp; omega) | omega | with_reducible apply le_size_alloc | with_reducible apply lt_size_alloc | with_reducible apply le_size_drewN | with_reducible apply le_size_drew | with_reducible apply le_size_setCell | refine Nat.lt_of_lt_of_le ?_ (Below.size (by assumption)) | refine Nat.le_trans ?_ (Below.size (by assumption))))
    have HS : Hid (CR mapE V A c l) := ha.ext b
    have B : Hid (Below w.heap.size w V) := b
    clear b ha
    have p0 : V.cell? ⟨w.heap.size, 0, none⟩ = some (.int .i64 p) := by simpa using KB.out.cell_ 0
    have p1 : V.cell? ⟨w.heap.size, 1, none⟩ = some (.int .i64 q) := by simpa using KB.out.cell_ 1
    have zB : w.heap.size < V.heap.size := KB.out.lt
    go_enter Try.func5, Try.ntmps5
    go_wp2_with fail
    refine (OwnMaps_any A c l _ HS.out.1 la).mono ?_
    rintro e x1 ⟨A1, c1, rfl, hc1, hb⟩
    have b : Below V.heap.size V x1 := (by repeat' (first | with_reducible exact Below.refl _ _ | with_reducible assumption | with_reducible apply Below.drew | with_reducible apply below_drewN | with_reducible apply Below.alloc | with_reducible apply Below.setCell | (with_reducible refine Below.trans ?_ (Below.mono (by assumption) ?_)) | (simp; done) | (simp; omega) | omega | with_reducible apply le_size_alloc | with_reducible apply le_size_drewN | with_reducible apply le_size_drew | with_reducible apply le_size_setCell | refine Nat.le_trans ?_ (Below.size (by assumption))))
    clear hb
    replace KB : Hid (Blk x1 w.heap.size 24 #[.int .i64 p, .int .i64 q]) := Blk.below_ KB.out b KB.out.lt
    replace HS : Hid (CR mapE x1 A c l) := HS.out.ext b
    replace B : Hid (Below w.heap.size w x1) := B.out.trans (b.mono B.out.size)
    have H1 : Hid (CR mapE x1 A1 c1 l) := hc1
    clear hc1
    clear p0 p1 zB
    clear b
    have p0 : x1.cell? ⟨w.heap.size, 0, none⟩ = some (.int .i64 p) := by simpa using KB.out.cell_ 0
    have p1 : x1.cell? ⟨w.heap.size, 1, none⟩ = some (.int .i64 q) := by simpa using KB.out.cell_ 1
    have zB : w.heap.size < x1.heap.size := KB.out.lt
    go_wp2_with fail
    refine (Add_any A1 c1 l f p q _ H1.out.1 la).mono ?_
    unfold LePost
    rw [HD.out]
    rintro e x2 ⟨A20, c20, rfl, hc20, hb⟩
    have b : Below x1.heap.size x1 x2 := (by repeat' (first | with_reducible exact Below.refl _ _ | with_reducible assumption | with_reducible apply Below.drew | with_reducible apply below_drewN | with_reducible apply Below.alloc | with_reducible apply Below.setCell | (with_reducible refine Below.trans ?_ (Below.mono (by assumption) ?_)) | (simp; done) | (simp; omega) | omega | with_reducible apply le_size_alloc | with_reducible apply le_size_drewN | with_reducible apply le_size_drew | with_reducible apply le_size_setCell | refine Nat.le_trans ?_ (Below.size (by assumption))))
    clear hb
    replace KB : Hid (Blk x2 w.heap.size 24 #[.int .i64 p, .int .i64 q]) := Blk.below_ KB.out b KB.out.lt
    replace HS : Hid (CR mapE x2 A c l) := HS.out.ext b
    replace H1 : Hid (CR mapE x2 A1 c1 l) := H1.out.ext b
    replace B : Hid (Below w.heap.size w x2) := B.out.trans (b.mono B.out.size)
    have Ma : Hid (CR mapE x2 A20 c20 La) := hc20
    clear hc20
    clear p0 p1 zB
    clear b
    have p0 : x2.cell? ⟨w.heap.size, 0, none⟩ = some (.int .i64 p) := by simpa using KB.out.cell_ 0
    have p1 : x2.cell? ⟨w.heap.size, 1, none⟩ = some (.int .i64 q) := by simpa using KB.out.cell_ 1
    have zB : w.heap.size < x2.heap.size := KB.out.lt
    go_wp2_with fail
    refine (RAdd_any A c l f p q _ HS.out la).mono ?_
    unfold LePost
    rw [HD.out]
    rintro e x3 ⟨A30, c30, rfl, hc30, hb⟩
    have b : Below x2.heap.size x2 x3 := (by repeat' (first | with_reducible exact Below.refl _ _ | with_reducible assumption | with_reducible apply Below.drew | with_reducible apply below_drewN | with_reducible apply Below.alloc | with_reducible apply Below.setCell | (with_reducible refine Below.trans ?_ (Below.mono (by assumption) ?_)) | (simp; done) | (simp; omega) | omega | with_reducible apply le_size_alloc | with_reducible apply le_size_drewN | with_reducible apply le_size_drew | with_reducible apply le_size_setCell | refine Nat.le_trans ?_ (Below.size (by assumption))))
    clear hb
    replace KB : Hid (Blk x3 w.heap.size 24 #[.int .i64 p, .int .i64 q]) := Blk.below_ KB.out b KB.out.lt
    replace HS : Hid (CR mapE x3 A c l) := HS.out.ext b
    replace H1 : Hid (CR mapE x3 A1 c1 l) := H1.out.ext b
    replace Ma : Hid (CR mapE x3 A20 c20 La) := Ma.out.ext b
    replace B : Hid (Below w.heap.size w x3) := B.out.trans (b.mono B.out.size)
    have Mb : Hid (CR mapE x3 A30 c30 La) := hc30
    clear hc30
    clear p0 p1 zB
    clear b
    have p0 : x3.cell? ⟨w.heap.size, 0, none⟩ = some (.int .i64 p) := by simpa using KB.out.cell_ 0
    have p1 : x3.cell? ⟨w.heap.size, 1, none⟩ = some (.int .i64 q) := by simpa using KB.out.cell_ 1
    have zB : w.heap.size < x3.heap.size := KB.out.lt
    go_wp2_with fail
    refine (SameMaps_any A20 A30 c20 c30 La La _ Ma.out.1 Mb.out.1 l1 l1).mono ?_
    rw [decide_eq_true rfl]
    rintro e x4 ⟨rfl, hb⟩
    have b : Below x3.heap.size x3 x4 := (by repeat' (first | with_reducible exact Below.refl _ _ | with_reducible assumption | with_reducible apply Below.drew | with_reducible apply below_drewN | with_reducible apply Below.alloc | with_reducible apply Below.setCell | (with_reducible refine Below.trans ?_ (Below.mono (by assumption) ?_)) | (simp; done) | (simp; omega) | omega | with_reducible apply le_size_alloc | with_reducible apply le_size_drewN | with_reducible apply le_size_drew | with_reducible apply le_size_setCell | refine Nat.le_trans ?_ (Below.size (by assumption))))
    clear hb
    replace KB : Hid (Blk x4 w.heap.size 24 #[.int .i64 p, .int .i64 q]) := Blk.below_ KB.out b KB.out.lt
    replace HS : Hid (CR mapE x4 A c l) := HS.out.ext b
    replace H1 : Hid (CR mapE x4 A1 c1 l) := H1.out.ext b
    replace Ma : Hid (CR mapE x4 A20 c20 La) := Ma.out.ext b
    replace Mb : Hid (CR mapE x4 A30 c30 La) := Mb.out.ext b
    replace B : Hid (Below w.heap.size w x4) := B.out.trans (b.mono B.out.size)
    clear p0 p1 zB
    clear b
    have p0 : x4.cell? ⟨w.heap.size, 0, none⟩ = some (.int .i64 p) := by simpa using KB.out.cell_ 0
    have p1 : x4.cell? ⟨w.heap.size, 1, none⟩ = some (.int .i64 q) := by simpa using KB.out.cell_ 1
    have zB : w.heap.size < x4.heap.size := KB.out.lt
    clear Ma
    clear Mb
    go_wp2_with fail
    refine (Remove_any A1 c1 l p q _ H1.out.1 la).mono ?_
    unfold RemPost
    rw [HR.out]
    rintro e x5 ⟨A50, c50, rfl, hc50, hb⟩
    have b : Below x4.heap.size x4 x5 := (by repeat' (first | with_reducible exact Below.refl _ _ | with_reducible assumption | with_reducible apply Below.drew | with_reducible apply below_drewN | with_reducible apply Below.alloc | with_reducible apply Below.setCell | (with_reducible refine Below.trans ?_ (Below.mono (by assumption) ?_)) | (simp; done) | (simp; omega) | omega | with_reducible apply le_size_alloc | with_reducible apply le_size_drewN | with_reducible apply le_size_drew | with_reducible apply le_size_setCell | refine Nat.le_trans ?_ (Below.size (by assumption))))
    clear hb
    replace KB : Hid (Blk x5 w.heap.size 24 #[.int .i64 p, .int .i64 q]) := Blk.below_ KB.out b KB.out.lt
    replace HS : Hid (CR mapE x5 A c l) := HS.out.ext b
    replace H1 : Hid (CR mapE x5 A1 c1 l) := H1.out.ext b
    replace B : Hid (Below w.heap.size w x5) := B.out.trans (b.mono B.out.size)
    have Ma : Hid (CR mapE x5 A50 c50 Lr) := hc50
    clear hc50
    clear p0 p1 zB
    clear b
    have p0 : x5.cell? ⟨w.heap.size, 0, none⟩ = some (.int .i64 p) := by simpa using KB.out.cell_ 0
    have p1 : x5.cell? ⟨w.heap.size, 1, none⟩ = some (.int .i64 q) := by simpa using KB.out.cell_ 1
    have zB : w.heap.size < x5.heap.size := KB.out.lt
    go_wp2_with fail
    refine (RRemove_any A c l p q _ HS.out la).mono ?_
    unfold RemPost
    rw [HR.out]
    rintro e x6 ⟨A60, c60, rfl, hc60, hb⟩
    have b : Below x5.heap.size x5 x6 := (by repeat' (first | with_reducible exact Below.refl _ _ | with_reducible assumption | with_reducible apply Below.drew | with_reducible apply below_drewN | with_reducible apply Below.alloc | with_reducible apply Below.setCell | (with_reducible refine Below.trans ?_ (Below.mono (by assumption) ?_)) | (simp; done) | (simp; omega) | omega | with_reducible apply le_size_alloc | with_reducible apply le_size_drewN | with_reducible apply le_size_drew | with_reducible apply le_size_setCell | refine Nat.le_trans ?_ (Below.size (by assumption))))
    clear hb
    replace KB : Hid (Blk x6 w.heap.size 24 #[.int .i64 p, .int .i64 q]) := Blk.below_ KB.out b KB.out.lt
    replace HS : Hid (CR mapE x6 A c l) := HS.out.ext b
    replace H1 : Hid (CR mapE x6 A1 c1 l) := H1.out.ext b
    replace Ma : Hid (CR mapE x6 A50 c50 Lr) := Ma.out.ext b
    replace B : Hid (Below w.heap.size w x6) := B.out.trans (b.mono B.out.size)
    have Mb : Hid (CR mapE x6 A60 c60 Lr) := hc60
    clear hc60
    clear p0 p1 zB
    clear b
    have p0 : x6.cell? ⟨w.heap.size, 0, none⟩ = some (.int .i64 p) := by simpa using KB.out.cell_ 0
    have p1 : x6.cell? ⟨w.heap.size, 1, none⟩ = some (.int .i64 q) := by simpa using KB.out.cell_ 1
    have zB : w.heap.size < x6.heap.size := KB.out.lt
    go_wp2_with fail
    refine (SameMaps_any A50 A60 c50 c60 Lr Lr _ Ma.out.1 Mb.out.1 l2 l2).mono ?_
    rw [decide_eq_true rfl]
    rintro e x7 ⟨rfl, hb⟩
    have b : Below x6.heap.size x6 x7 := (by repeat' (first | with_reducible exact Below.refl _ _ | with_reducible assumption | with_reducible apply Below.drew | with_reducible apply below_drewN | with_reducible apply Below.alloc | with_reducible apply Below.setCell | (with_reducible refine Below.trans ?_ (Below.mono (by assumption) ?_)) | (simp; done) | (simp; omega) | omega | with_reducible apply le_size_alloc | with_reducible apply le_size_drewN | with_reducible apply le_size_drew | with_reducible apply le_size_setCell | refine Nat.le_trans ?_ (Below.size (by assumption))))
    clear hb
    replace KB : Hid (Blk x7 w.heap.size 24 #[.int .i64 p, .int .i64 q]) := Blk.below_ KB.out b KB.out.lt
    replace HS : Hid (CR mapE x7 A c l) := HS.out.ext b
    replace H1 : Hid (CR mapE x7 A1 c1 l) := H1.out.ext b
    replace Ma : Hid (CR mapE x7 A50 c50 Lr) := Ma.out.ext b
    replace Mb : Hid (CR mapE x7 A60 c60 Lr) := Mb.out.ext b
    replace B : Hid (Below w.heap.size w x7) := B.out.trans (b.mono B.out.size)
    clear p0 p1 zB
    clear b
    have p0 : x7.cell? ⟨w.heap.size, 0, none⟩ = some (.int .i64 p) := by simpa using KB.out.cell_ 0
    have p1 : x7.cell? ⟨w.heap.size, 1, none⟩ = some (.int .i64 q) := by simpa using KB.out.cell_ 1
    have zB : w.heap.size < x7.heap.size := KB.out.lt
    clear Ma
    clear Mb
    go_wp2_with fail
    refine (Move_any A1 c1 l p q f _ H1.out.1 la).mono ?_
    unfold MovPost
    rw [HM.out]
    rintro e x8 ⟨A80, c80, rfl, hc80, hb⟩
    have b : Below x7.heap.size x7 x8 := (by repeat' (first | with_reducible exact Below.refl _ _ | with_reducible assumption | with_reducible apply Below.drew | with_reducible apply below_drewN | with_reducible apply Below.alloc | with_reducible apply Below.setCell | (with_reducible refine Below.trans ?_ (Below.mono (by assumption) ?_)) | (simp; done) | (simp; omega) | omega | with_reducible apply le_size_alloc | with_reducible apply le_size_drewN | with_reducible apply le_size_drew | with_reducible apply le_size_setCell | refine Nat.le_trans ?_ (Below.size (by assumption))))
    clear hb
    replace KB : Hid (Blk x8 w.heap.size 24 #[.int .i64 p, .int .i64 q]) := Blk.below_ KB.out b KB.out.lt
    replace HS : Hid (CR mapE x8 A c l) := HS.out.ext b
    replace H1 : Hid (CR mapE x8 A1 c1 l) := H1.out.ext b
    replace B : Hid (Below w.heap.size w x8) := B.out.trans (b.mono B.out.size)
    have Ma : Hid (CR mapE x8 A80 c80 Lm) := hc80
    clear hc80
    clear p0 p1 zB
    clear b
    have p0 : x8.cell? ⟨w.heap.size, 0, none⟩ = some (.int .i64 p) := by simpa using KB.out.cell_ 0
    have p1 : x8.cell? ⟨w.heap.size, 1, none⟩ = some (.int .i64 q) := by simpa using KB.out.cell_ 1
    have zB : w.heap.size < x8.heap.size := KB.out.lt
    go_wp2_with fail
    refine (RMove_any A c l p q f _ HS.out la).mono ?_
    unfold MovPost
    rw [HM.out]
    rintro e x9 ⟨A90, c90, rfl, hc90, hb⟩
    have b : Below x8.heap.size x8 x9 := (by repeat' (first | with_reducible exact Below.refl _ _ | with_reducible assumption | with_reducible apply Below.drew | with_reducible apply below_drewN | with_reducible apply Below.alloc | with_reducible apply Below.setCell | (with_reducible refine Below.trans ?_ (Below.mono (by assumption) ?_)) | (simp; done) | (simp; omega) | omega | with_reducible apply le_size_alloc | with_reducible apply le_size_drewN | with_reducible apply le_size_drew | with_reducible apply le_size_setCell | refine Nat.le_trans ?_ (Below.size (by assumption))))
    clear hb
    replace KB : Hid (Blk x9 w.heap.size 24 #[.int .i64 p, .int .i64 q]) := Blk.below_ KB.out b KB.out.lt
    replace HS : Hid (CR mapE x9 A c l) := HS.out.ext b
    replace H1 : Hid (CR mapE x9 A1 c1 l) := H1.out.ext b
    replace Ma : Hid (CR mapE x9 A80 c80 Lm) := Ma.out.ext b
    replace B : Hid (Below w.heap.size w x9) := B.out.trans (b.mono B.out.size)
    have Mb : Hid (CR mapE x9 A90 c90 Lm) := hc90
    clear hc90
    clear p0 p1 zB
    clear b
    have p0 : x9.cell? ⟨w.heap.size, 0, none⟩ = some (.int .i64 p) := by simpa using KB.out.cell_ 0
    have p1 : x9.cell? ⟨w.heap.size, 1, none⟩ = some (.int .i64 q) := by simpa using KB.out.cell_ 1
    have zB : w.heap.size < x9.heap.size := KB.out.lt
    go_wp2_with fail
    refine (SameMaps_any A80 A90 c80 c90 Lm Lm _ Ma.out.1 Mb.out.1 l3 l3).mono ?_
    rw [decide_eq_true rfl]
    rintro e x10 ⟨rfl, hb⟩
    have b : Below x9.heap.size x9 x10 := (by repeat' (first | with_reducible exact Below.refl _ _ | with_reducible assumption | with_reducible apply Below.drew | with_reducible apply below_drewN | with_reducible apply Below.alloc | with_reducible apply Below.setCell | (with_reducible refine Below.trans ?_ (Below.mono (by assumption) ?_)) | (simp; done) | (simp; omega) | omega | with_reducible apply le_size_alloc | with_reducible apply le_size_drewN | with_reducible apply le_size_drew | with_reducible apply le_size_setCell | refine Nat.le_trans ?_ (Below.size (by assumption))))
    clear hb
    replace KB : Hid (Blk x10 w.heap.size 24 #[.int .i64 p, .int .i64 q]) := Blk.below_ KB.out b KB.out.lt
    replace HS : Hid (CR mapE x10 A c l) := HS.out.ext b
    replace H1 : Hid (CR mapE x10 A1 c1 l) := H1.out.ext b
    replace Ma : Hid (CR mapE x10 A80 c80 Lm) := Ma.out.ext b
    replace Mb : Hid (CR mapE x10 A90 c90 Lm) := Mb.out.ext b
    replace B : Hid (Below w.heap.size w x10) := B.out.trans (b.mono B.out.size)
    clear p0 p1 zB
    clear b
    have p0 : x10.cell? ⟨w.heap.size, 0, none⟩ = some (.int .i64 p) := by simpa using KB.out.cell_ 0
    have p1 : x10.cell? ⟨w.heap.size, 1, none⟩ = some (.int .i64 q) := by simpa using KB.out.cell_ 1
    have zB : w.heap.size < x10.heap.size := KB.out.lt
    clear Ma
    clear Mb
    go_wp2_with fail
    refine (Drop_any A1 c1 l f _ H1.out.1 la).mono ?_
    unfold DrpPost
    rw [HP.out]
    rintro e x11 ⟨A110, c110, A111, c111, rfl, hc110, hc111, hb⟩
    have b : Below x10.heap.size x10 x11 := (by repeat' (first | with_reducible exact Below.refl _ _ | with_reducible assumption | with_reducible apply Below.drew | with_reducible apply below_drewN | with_reducible apply Below.alloc | with_reducible apply Below.setCell | (with_reducible refine Below.trans ?_ (Below.mono (by assumption) ?_)) | (simp; done) | (simp; omega) | omega | with_reducible apply le_size_alloc | with_reducible apply le_size_drewN | with_reducible apply le_size_drew | with_reducible apply le_size_setCell | refine Nat.le_trans ?_ (Below.size (by assumption))))
    clear hb
    replace KB : Hid (Blk x11 w.heap.size 24 #[.int .i64 p, .int .i64 q]) := Blk.below_ KB.out b KB.out.lt
    replace HS : Hid (CR mapE x11 A c l) := HS.out.ext b
    replace H1 : Hid (CR mapE x11 A1 c1 l) := H1.out.ext b
    replace B : Hid (Below w.heap.size w x11) := B.out.trans (b.mono B.out.size)
    have Ma : Hid (CR mapE x11 A110 c110 Ld) := hc110
    have Pa : Hid (CR plE x11 A111 c111 Lp) := hc111
    clear hc110
    clear hc111
    clear p0 p1 zB
    clear b
    have p0 : x11.cell? ⟨w.heap.size, 0, none⟩ = some (.int .i64 p) := by simpa using KB.out.cell_ 0
    have p1 : x11.cell? ⟨w.heap.size, 1, none⟩ = some (.int .i64 q) := by simpa using KB.out.cell_ 1
    have zB : w.heap.size < x11.heap.size := KB.out.lt
    go_wp2_with fail
    refine (RDrop_any A c l f _ HS.out la).mono ?_
    unfold DrpPost
    rw [HP.out]
    rintro e x12 ⟨A120, c120, A121, c121, rfl, hc120, hc121, hb⟩
    have b : Below x11.heap.size x11 x12 := (by repeat' (first | with_reducible exact Below.refl _ _ | with_reducible assumption | with_reducible apply Below.drew | with_reducible apply below_drewN | with_reducible apply Below.alloc | with_reducible apply Below.setCell | (with_reducible refine Below.trans ?_ (Below.mono (by assumption) ?_)) | (simp; done) | (simp; omega) | omega | with_reducible apply le_size_alloc | with_reducible apply le_size_drewN | with_reducible apply le_size_drew | with_reducible apply le_size_setCell | refine Nat.le_trans ?_ (Below.size (by assumption))))
    clear hb
    replace KB : Hid (Blk x12 w.heap.size 24 #[.int .i64 p, .int .i64 q]) := Blk.below_ KB.out b KB.out.lt
    replace HS : Hid (CR mapE x12 A c l) := HS.out.ext b
    replace H1 : Hid (CR mapE x12 A1 c1 l) := H1.out.ext b
    replace Ma : Hid (CR mapE x12 A110 c110 Ld) := Ma.out.ext b
    replace Pa : Hid (CR plE x12 A111 c111 Lp) := Pa.out.ext b
    replace B : Hid (Below w.heap.size w x12) := B.out.trans (b.mono B.out.size)
    have Mb : Hid (CR mapE x12 A120 c120 Ld) := hc120
    have Pb : Hid (CR plE x12 A121 c121 Lp) := hc121
    clear hc120
    clear hc121
    clear p0 p1 zB
    clear b
    have p0 : x12.cell? ⟨w.heap.size, 0, none⟩ = some (.int .i64 p) := by simpa using KB.out.cell_ 0
    have p1 : x12.cell? ⟨w.heap.size, 1, none⟩ = some (.int .i64 q) := by simpa using KB.out.cell_ 1
    have zB : w.heap.size < x12.heap.size := KB.out.lt
    go_wp2_with fail
    refine (SameMaps_any A110 A120 c110 c120 Ld Ld _ Ma.out.1 Mb.out.1 l4 l4).mono ?_
    rw [decide_eq_true rfl]
    rintro e x13 ⟨rfl, hb⟩
    have b : Below x12.heap.size x12 x13 := (by repeat' (first | with_reducible exact Below.refl _ _ | with_reducible assumption | with_reducible apply Below.drew | with_reducible apply below_drewN | with_reducible apply Below.alloc | with_reducible apply Below.setCell | (with_reducible refine Below.trans ?_ (Below.mono (by assumption) ?_)) | (simp; done) | (simp; omega) | omega | with_reducible apply le_size_alloc | with_reducible apply le_size_drewN | with_reducible apply le_size_drew | with_reducible apply le_size_setCell | refine Nat.le_trans ?_ (Below.size (by assumption))))
    clear hb
    replace KB : Hid (Blk x13 w.heap.size 24 #[.int .i64 p, .int .i64 q]) := Blk.below_ KB.out b KB.out.lt
    replace HS : Hid (CR mapE x13 A c l) := HS.out.ext b
    replace H1 : Hid (CR mapE x13 A1 c1 l) := H1.out.ext b
    replace Ma : Hid (CR mapE x13 A110 c110 Ld) := Ma.out.ext b
    replace Pa : Hid (CR plE x13 A111 c111 Lp) := Pa.out.ext b
    replace Mb : Hid (CR mapE x13 A120 c120 Ld) := Mb.out.ext b
    replace Pb : Hid (CR plE x13 A121 c121 Lp) := Pb.out.ext b
    replace B : Hid (Below w.heap.size w x13) := B.out.trans (b.mono B.out.size)
    clear p0 p1 zB
    clear b
    have p0 : x13.cell? ⟨w.heap.size, 0, none⟩ = some (.int .i64 p) := by simpa using KB.out.cell_ 0
    have p1 : x13.cell? ⟨w.heap.size, 1, none⟩ = some (.int .i64 q) := by simpa using KB.out.cell_ 1
    have zB : w.heap.size < x13.heap.size := KB.out.lt
    clear Ma
    clear Mb
    go_wp2_with fail
    refine (places_any A111 A121 c111 c121 Lp Lp _ Pa.out.1 Pb.out.1 l5 l5).mono ?_
    rw [decide_eq_true rfl]
    rintro e x14 ⟨rfl, hb⟩
    have b : Below x13.heap.size x13 x14 := (by repeat' (first | with_reducible exact Below.refl _ _ | with_reducible assumption | with_reducible apply Below.drew | with_reducible apply below_drewN | with_reducible apply Below.alloc | with_reducible apply Below.setCell | (with_reducible refine Below.trans ?_ (Below.mono (by assumption) ?_)) | (simp; done) | (simp; omega) | omega | with_reducible apply le_size_alloc | with_reducible apply le_size_drewN | with_reducible apply le_size_drew | with_reducible apply le_size_setCell | refine Nat.le_trans ?_ (Below.size (by assumption))))
    clear hb
    replace KB : Hid (Blk x14 w.heap.size 24 #[.int .i64 p, .int .i64 q]) := Blk.below_ KB.out b KB.out.lt
    replace HS : Hid (CR mapE x14 A c l) := HS.out.ext b
    replace H1 : Hid (CR mapE x14 A1 c1 l) := H1.out.ext b
    replace Pa : Hid (CR plE x14 A111 c111 Lp) := Pa.out.ext b
    replace Pb : Hid (CR plE x14 A121 c121 Lp) := Pb.out.ext b
    replace B : Hid (Below w.heap.size w x14) := B.out.trans (b.mono B.out.size)
    clear p0 p1 zB
    clear b
    have p0 : x14.cell? ⟨w.heap.size, 0, none⟩ = some (.int .i64 p) := by simpa using KB.out.cell_ 0
    have p1 : x14.cell? ⟨w.heap.size, 1, none⟩ = some (.int .i64 q) := by simpa using KB.out.cell_ 1
    have zB : w.heap.size < x14.heap.size := KB.out.lt
    go_wp2_with fail
    refine (SameMaps_any A1 A c1 c l l _ H1.out.1 HS.out.1 la la).mono ?_
    rw [decide_eq_true rfl]
    rintro e x15 ⟨rfl, hb⟩
    have b : Below x14.heap.size x14 x15 := (by repeat' (first | with_reducible exact Below.refl _ _ | with_reducible assumption | with_reducible apply Below.drew | with_reducible apply below_drewN | with_reducible apply Below.alloc | with_reducible apply Below.setCell | (with_reducible refine Below.trans ?_ (Below.mono (by assumption) ?_)) | (simp; done) | (simp; omega) | omega | with_reducible apply le_size_alloc | with_reducible apply le_size_drewN | with_reducible apply le_size_drew | with_reducible apply le_size_setCell | refine Nat.le_trans ?_ (Below.size (by assumption))))
    clear hb
    replace KB : Hid (Blk x15 w.heap.size 24 #[.int .i64 p, .int .i64 q]) := Blk.below_ KB.out b KB.out.lt
    replace HS : Hid (CR mapE x15 A c l) := HS.out.ext b
    replace H1 : Hid (CR mapE x15 A1 c1 l) := H1.out.ext b
    replace Pa : Hid (CR plE x15 A111 c111 Lp) := Pa.out.ext b
    replace Pb : Hid (CR plE x15 A121 c121 Lp) := Pb.out.ext b
    replace B : Hid (Below w.heap.size w x15) := B.out.trans (b.mono B.out.size)
    clear p0 p1 zB
    clear b
    have p0 : x15.cell? ⟨w.heap.size, 0, none⟩ = some (.int .i64 p) := by simpa using KB.out.cell_ 0
    have p1 : x15.cell? ⟨w.heap.size, 1, none⟩ = some (.int .i64 q) := by simpa using KB.out.cell_ 1
    have zB : w.heap.size < x15.heap.size := KB.out.lt
    go_wp2_with fail
    refine (awake_any _).mono ?_
    rintro e x16 ⟨rfl, hb⟩
    have b : Below x15.heap.size x15 x16 := (by repeat' (first | with_reducible exact Below.refl _ _ | with_reducible assumption | with_reducible apply Below.drew | with_reducible apply below_drewN | with_reducible apply Below.alloc | with_reducible apply Below.setCell | (with_reducible refine Below.trans ?_ (Below.mono (by assumption) ?_)) | (simp; done) | (simp; omega) | omega | with_reducible apply le_size_alloc | with_reducible apply le_size_drewN | with_reducible apply le_size_drew | with_reducible apply le_size_setCell | refine Nat.le_trans ?_ (Below.size (by assumption))))
    clear hb
    replace KB : Hid (Blk x16 w.heap.size 24 #[.int .i64 p, .int .i64 q]) := Blk.below_ KB.out b KB.out.lt
    replace HS : Hid (CR mapE x16 A c l) := HS.out.ext b
    replace H1 : Hid (CR mapE x16 A1 c1 l) := H1.out.ext b
    replace Pa : Hid (CR plE x16 A111 c111 Lp) := Pa.out.ext b
    replace Pb : Hid (CR plE x16 A121 c121 Lp) := Pb.out.ext b
    replace B : Hid (Below w.heap.size w x16) := B.out.trans (b.mono B.out.size)
    clear p0 p1 zB
    clear b
    have p0 : x16.cell? ⟨w.heap.size, 0, none⟩ = some (.int .i64 p) := by simpa using KB.out.cell_ 0
    have p1 : x16.cell? ⟨w.heap.size, 1, none⟩ = some (.int .i64 q) := by simpa using KB.out.cell_ 1
    have zB : w.heap.size < x16.heap.size := KB.out.lt
    go_wp2_with fail
    go_ret
    exact ⟨rfl, B.out⟩


set_option maxRecDepth 100000 in
theorem rmapChanges_lifted (os : Os) (started : os.Started) (H : Type) (enc : TypeId × Value → H) :
    ReturnsInHanded {} Try.checked os 5 .any (Rows.rmapChangesSpec.pre6 enc Try.prog Try.f5 Rows.rmapChangesRow.domain false) (Rows.rmapChangesSpec.post enc Try.prog Try.f5 false true false false) := by
  refine returnsInHanded_of_change (C := Try.checked) own started (by kernel_rfl) Try.func5
    (ChangeSpec.witness6 (enc := enc) (C := Try.checked) false ⟨#[], #[.slice none 0 0, .int .i64 0, .agg #[.int .i64 0, .int .i64 0]], []⟩ 8 (by kernel_rfl) (by kernel_rfl) (by kernel_rfl) (by kernel_rfl)) ?_
  intro W base args ds gs before hval0 hW hcnd _
  have hval : ∀ (j : Nat) t v, Try.f5.params[j]? = some t → args[j]? = some v → Value.okWide Try.prog W .any base t v := hval0
  have hW' := hW
  obtain ⟨p, q, hA0, hV, rfl, hfz, hnd⟩ := hW
  have hA : DataW.TrodAll enc Try.prog W 0 (fun _ => true) true Try.f5.params.toList args.toList ds p := hA0
  rw [Try.params5] at hA hval
  obtain ⟨v0, vs0, d0, ds0, p0, q0, hargs, rfl, rfl, h0, r0⟩ := trodAll_cons hA
  obtain ⟨v1, vs1, d1, ds1, p1, q1, rfl, rfl, rfl, h1, r1⟩ := trodAll_cons r0
  obtain ⟨v2, vs2, d2, ds2, p2, q2, rfl, rfl, rfl, h2, r2⟩ := trodAll_cons r1
  obtain ⟨rfl, rfl, rfl⟩ := trodAll_nil r2
  obtain rfl : args = #[v0, v1, v2] := by cases args; simp_all
  obtain ⟨rfl, rfl⟩ := trodVars_none hV
  obtain ⟨A0, k0, a0, rfl, s0, l0⟩ := open_maps (hval 0 22 v0 rfl rfl) h0
  obtain ⟨a1, rfl, rfl, rfl, w1⟩ := open_int Try.underlying3 (hval 1 3 v1 rfl rfl) h1
  obtain ⟨c20, c21, y20, y21, m2, rfl, rfl, rfl, hy20, hy21⟩ := open_agg2 Try.underlying24 (by kernel_rfl) (by kernel_rfl) (hval 2 24 v2 rfl rfl) h2
  obtain ⟨a20, e20, f20, w20⟩ := DataW.trod_int Try.underlying3 hy20
  simp at e20; subst e20
  obtain ⟨a21, e21, f21, w21⟩ := DataW.trod_int Try.underlying3 hy21
  simp at e21; subst e21
  clear hA0 hval0
  refine (rmapChanges_walk A0 k0 a0 a1 a20 a21 W s0 l0 w1 w20 w21).mono fun e W' ⟨he, hb⟩ => ⟨_, he, ?_⟩
  exact law_post laidOut (s := Rows.rmapChangesSpec) (B := 4) rfl rfl Try.underlying4 (by decide +kernel) hW' rfl hb

theorem rmapChanges_holds : Rows.RmapChangesSaid :=
  OpenClaim.holds_of_wide 5 Try.f5 rfl rfl rfl rfl rfl rfl rfl ⟨rfl, rfl, rfl, rfl, rfl⟩ rfl rfl rfl rfl rfl (by kernel_rfl) Try.func5 (by kernel_rfl)
    (of_decide_eq_true (by kernel_rfl)) (by unfold Func.isWrapper; first | (rw [if_pos (by decide +kernel)]; kernel_rfl) | (rw [if_neg (by decide +kernel)]; exact ⟨rfl, rfl⟩))
    (fun os started H enc _ => rmapChanges_lifted os started H enc)

end Go.Proofs.Ytbeddhamnefpiaa
