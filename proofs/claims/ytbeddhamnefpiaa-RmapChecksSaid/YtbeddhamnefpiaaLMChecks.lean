/- RmapChecks: the statement holds for every list of mappings. Written by gen_lm.py. -/
import Derived.Test.YtbeddhamnefpiaaRL2
namespace Go.Proofs.Ytbeddhamnefpiaa
set_option linter.unusedSimpArgs false
set_option linter.unusedVariables false
open Go.RowKit Go.Maps
open Go.ChangeShapes Go.WideShapes Go.ChangeAt Go.Joins Go.Deep

set_option maxRecDepth 100000 in
set_option maxHeartbeats 4000000 in
theorem rmapChecks_walk (A : Option Addr) (c : Nat) (l : List M3) (f p q : Int) (w : World) (ha : CR mapE w A c l) (hl0 : l.length ≤ maxLen) (_h0 : (Lit.int .i64 f).wf = true) (_h1 : (Lit.int .i64 p).wf = true) (_h2 : (Lit.int .i64 q).wf = true) :
    Calls Try.prog 3 #[.slice A l.length c, .int .i64 f, .agg #[.int .i64 p, .int .i64 q]] w fun e w' => e = .returned (.bool true) ∧ Below w.heap.size w w' := by
  have hl : l.length ≤ 9223372036854775807 := by unfold maxLen at hl0; exact hl0
  by_cases h80 : 80 < l.length
  · have h80' : (80 : Int) < l.length := by omega
    clear ha
    go_enter Try.func3, Try.ntmps3
    go_wp2_with fail
    refine (awake_any _).mono ?_
    rintro e w2 ⟨rfl, hb2⟩
    go_wp2_with fail
    go_ret
    exact ⟨rfl, (by repeat' (first | with_reducible exact Below.refl _ _ | with_reducible assumption | with_reducible apply Below.drew | with_reducible apply below_drewN | with_reducible apply Below.alloc | with_reducible apply Below.setCell | (with_reducible refine Below.trans ?_ (Below.mono (by assumption) ?_)) | (simp; done) | (simp; omega) | omega | with_reducible apply le_size_alloc | with_reducible apply le_size_drewN | with_reducible apply le_size_drew | with_reducible apply le_size_setCell | refine Nat.le_trans ?_ (Below.size (by assumption))))⟩
  · have h80' : (l.length : Int) ≤ 80 := by omega
    have h80'' : ¬ ((80 : Int) < l.length) := by omega
    have hlc := ha.2
    have la : l.length ≤ 1000 := by omega
    obtain ⟨⟨z, n⟩, hK⟩ : ∃ r, chkM l = r := ⟨_, rfl⟩
    obtain ⟨⟨g, z2⟩, hF⟩ : ∃ r, fndM l (p, q) = r := ⟨_, rfl⟩
    obtain ⟨⟨L2, z3⟩, hO⟩ : ∃ r, ofM l f = r := ⟨_, rfl⟩
    obtain ⟨⟨L4, z4⟩, hC⟩ : ∃ r, cnsM l = r := ⟨_, rfl⟩
    have l2 : L2.length ≤ 1000 := by have h := congrArg (fun r => r.1.length) hO; simp only at h; rw [← h]; exact Nat.le_trans (ofM_len l f) la
    have l4 : L4.length ≤ 100000 := by have h := congrArg (fun r => r.1.length) hC; simp only at h; rw [← h]; exact Nat.le_trans (cnsM_len l) (by decide)
    have HK := Lib.hid hK; have HF := Lib.hid hF; have HO := Lib.hid hO; have HC := Lib.hid hC
    clear hK hF hO hC
    obtain ⟨V, hV⟩ : ∃ V, w.alloc (.cells #[.int .i64 p, .int .i64 q] 24) = V := ⟨_, rfl⟩
    have b : Below w.heap.size w V := by rw [← hV]; exact (by repeat' (first | with_reducible exact Below.refl _ _ | with_reducible assumption | with_reducible apply Below.drew | with_reducible apply below_drewN | with_reducible apply Below.alloc | with_reducible apply Below.setCell | (with_reducible refine Below.trans ?_ (Below.mono (by assumption) ?_)) | (simp; done) | (simp; omega) | omega | with_reducible apply le_size_alloc | with_reducible apply le_size_drewN | with_reducible apply le_size_drew | with_reducible apply le_size_setCell | refine Nat.le_trans ?_ (Below.size (by assumption))))
    have KB : Hid (Blk V w.heap.size 24 #[.int .i64 p, .int .i64 q]) := by show Blk _ _ _ _; rw [← hV]; exact (by repeat' (first | with_reducible assumption | (with_reducible refine Blk.new_ ?_ ?_ <;> first | (simp; done) | rfl) | with_reducible apply Blk.drew_ | with_reducible apply Blk.drewN_ | with_reducible apply Blk.alloc_ | with_reducible refine Blk.far_ ?_ ?_ _ | (with_reducible refine Blk.below_ ?_ (by assumption) ?_) | (simp; done) | (simp; omega) | omega | with_reducible apply le_size_alloc | with_reducible apply lt_size_alloc | with_reducible apply le_size_drewN | with_reducible apply le_size_drew | with_reducible apply le_size_setCell | refine Nat.lt_of_lt_of_le ?_ (Below.size (by assumption)) | refine Nat.le_trans ?_ (Below.size (by assumption))))
    have HS : Hid (CR mapE V A c l) := ha.ext b
    have B : Hid (Below w.heap.size w V) := b
    clear b ha
    have p0 : V.cell? ⟨w.heap.size, 0, none⟩ = some (.int .i64 p) := by simpa using KB.out.cell_ 0
    have p1 : V.cell? ⟨w.heap.size, 1, none⟩ = some (.int .i64 q) := by simpa using KB.out.cell_ 1
    have zB : w.heap.size < V.heap.size := KB.out.lt
    go_enter Try.func3, Try.ntmps3
    go_wp2_with fail
    refine (OwnMaps_any A c l _ HS.out.1 la).mono ?_
    rintro e x1 ⟨A1, c1, rfl, hc1, hb⟩
    have b : Below V.heap.size V x1 := (by repeat' (first | with_reducible exact Below.refl _ _ | with_reducible assumption | with_reducible apply Below.drew | with_reducible apply below_drewN | with_reducible apply Below.alloc | with_reducible apply Below.setCell | (with_reducible refine Below.trans ?_ (Below.mono (by assumption) ?_)) | (simp; done) | (simp; omega) | omega | with_reducible apply le_size_alloc | with_reducible apply le_size_drewN | with_reducible apply le_size_drew | with_reducible apply le_size_setCell | refine Nat.le_trans ?_ (Below.size (by assumption))))
    clear hb
    replace KB : Hid (Blk x1 w.heap.size 24 #[.int .i64 p, .int .i64 q]) := Blk.below_ KB.out b KB.out.lt
    replace HS : Hid (CR mapE x1 A c l) := HS.out.ext b
    replace B : Hid (Below w.heap.size w x1) := B.out.trans (b.mono B.out.size)
    have H1 : Hid (CR mapE x1 A1 c1 l) := hc1
    clear hc1
    clear p0 p1 zB
    clear b
    have p0 : x1.cell? ⟨w.heap.size, 0, none⟩ = some (.int .i64 p) := by simpa using KB.out.cell_ 0
    have p1 : x1.cell? ⟨w.heap.size, 1, none⟩ = some (.int .i64 q) := by simpa using KB.out.cell_ 1
    have zB : w.heap.size < x1.heap.size := KB.out.lt
    go_wp2_with fail
    refine (Check_any A1 c1 l _ H1.out.1 la HK.out).mono ?_
    rintro e x2 ⟨rfl, hb⟩
    have b : Below x1.heap.size x1 x2 := (by repeat' (first | with_reducible exact Below.refl _ _ | with_reducible assumption | with_reducible apply Below.drew | with_reducible apply below_drewN | with_reducible apply Below.alloc | with_reducible apply Below.setCell | (with_reducible refine Below.trans ?_ (Below.mono (by assumption) ?_)) | (simp; done) | (simp; omega) | omega | with_reducible apply le_size_alloc | with_reducible apply le_size_drewN | with_reducible apply le_size_drew | with_reducible apply le_size_setCell | refine Nat.le_trans ?_ (Below.size (by assumption))))
    clear hb
    replace KB : Hid (Blk x2 w.heap.size 24 #[.int .i64 p, .int .i64 q]) := Blk.below_ KB.out b KB.out.lt
    replace HS : Hid (CR mapE x2 A c l) := HS.out.ext b
    replace H1 : Hid (CR mapE x2 A1 c1 l) := H1.out.ext b
    replace B : Hid (Below w.heap.size w x2) := B.out.trans (b.mono B.out.size)
    clear p0 p1 zB
    clear b
    have p0 : x2.cell? ⟨w.heap.size, 0, none⟩ = some (.int .i64 p) := by simpa using KB.out.cell_ 0
    have p1 : x2.cell? ⟨w.heap.size, 1, none⟩ = some (.int .i64 q) := by simpa using KB.out.cell_ 1
    have zB : w.heap.size < x2.heap.size := KB.out.lt
    go_wp2_with fail
    refine (RCheck_any A c l _ HS.out la HK.out).mono ?_
    rintro e x3 ⟨rfl, hb⟩
    have b : Below x2.heap.size x2 x3 := (by repeat' (first | with_reducible exact Below.refl _ _ | with_reducible assumption | with_reducible apply Below.drew | with_reducible apply below_drewN | with_reducible apply Below.alloc | with_reducible apply Below.setCell | (with_reducible refine Below.trans ?_ (Below.mono (by assumption) ?_)) | (simp; done) | (simp; omega) | omega | with_reducible apply le_size_alloc | with_reducible apply le_size_drewN | with_reducible apply le_size_drew | with_reducible apply le_size_setCell | refine Nat.le_trans ?_ (Below.size (by assumption))))
    clear hb
    replace KB : Hid (Blk x3 w.heap.size 24 #[.int .i64 p, .int .i64 q]) := Blk.below_ KB.out b KB.out.lt
    replace HS : Hid (CR mapE x3 A c l) := HS.out.ext b
    replace H1 : Hid (CR mapE x3 A1 c1 l) := H1.out.ext b
    replace B : Hid (Below w.heap.size w x3) := B.out.trans (b.mono B.out.size)
    clear p0 p1 zB
    clear b
    have p0 : x3.cell? ⟨w.heap.size, 0, none⟩ = some (.int .i64 p) := by simpa using KB.out.cell_ 0
    have p1 : x3.cell? ⟨w.heap.size, 1, none⟩ = some (.int .i64 q) := by simpa using KB.out.cell_ 1
    have zB : w.heap.size < x3.heap.size := KB.out.lt
    go_wp2_with fail
    refine (Find_any A1 c1 l p q _ H1.out.1 la HF.out).mono ?_
    rintro e x4 ⟨rfl, hb⟩
    have b : Below x3.heap.size x3 x4 := (by repeat' (first | with_reducible exact Below.refl _ _ | with_reducible assumption | with_reducible apply Below.drew | with_reducible apply below_drewN | with_reducible apply Below.alloc | with_reducible apply Below.setCell | (with_reducible refine Below.trans ?_ (Below.mono (by assumption) ?_)) | (simp; done) | (simp; omega) | omega | with_reducible apply le_size_alloc | with_reducible apply le_size_drewN | with_reducible apply le_size_drew | with_reducible apply le_size_setCell | refine Nat.le_trans ?_ (Below.size (by assumption))))
    clear hb
    replace KB : Hid (Blk x4 w.heap.size 24 #[.int .i64 p, .int .i64 q]) := Blk.below_ KB.out b KB.out.lt
    replace HS : Hid (CR mapE x4 A c l) := HS.out.ext b
    replace H1 : Hid (CR mapE x4 A1 c1 l) := H1.out.ext b
    replace B : Hid (Below w.heap.size w x4) := B.out.trans (b.mono B.out.size)
    clear p0 p1 zB
    clear b
    have p0 : x4.cell? ⟨w.heap.size, 0, none⟩ = some (.int .i64 p) := by simpa using KB.out.cell_ 0
    have p1 : x4.cell? ⟨w.heap.size, 1, none⟩ = some (.int .i64 q) := by simpa using KB.out.cell_ 1
    have zB : w.heap.size < x4.heap.size := KB.out.lt
    go_wp2_with fail
    refine (RFind_any A c l p q _ HS.out la HF.out).mono ?_
    rintro e x5 ⟨rfl, hb⟩
    have b : Below x4.heap.size x4 x5 := (by repeat' (first | with_reducible exact Below.refl _ _ | with_reducible assumption | with_reducible apply Below.drew | with_reducible apply below_drewN | with_reducible apply Below.alloc | with_reducible apply Below.setCell | (with_reducible refine Below.trans ?_ (Below.mono (by assumption) ?_)) | (simp; done) | (simp; omega) | omega | with_reducible apply le_size_alloc | with_reducible apply le_size_drewN | with_reducible apply le_size_drew | with_reducible apply le_size_setCell | refine Nat.le_trans ?_ (Below.size (by assumption))))
    clear hb
    replace KB : Hid (Blk x5 w.heap.size 24 #[.int .i64 p, .int .i64 q]) := Blk.below_ KB.out b KB.out.lt
    replace HS : Hid (CR mapE x5 A c l) := HS.out.ext b
    replace H1 : Hid (CR mapE x5 A1 c1 l) := H1.out.ext b
    replace B : Hid (Below w.heap.size w x5) := B.out.trans (b.mono B.out.size)
    clear p0 p1 zB
    clear b
    have p0 : x5.cell? ⟨w.heap.size, 0, none⟩ = some (.int .i64 p) := by simpa using KB.out.cell_ 0
    have p1 : x5.cell? ⟨w.heap.size, 1, none⟩ = some (.int .i64 q) := by simpa using KB.out.cell_ 1
    have zB : w.heap.size < x5.heap.size := KB.out.lt
    go_wp2_with fail
    refine (Of_any A1 c1 l f _ H1.out.1 la).mono ?_
    unfold OfPost
    rw [HO.out]
    rintro e x6 ⟨A60, c60, rfl, hc60, hb⟩
    have b : Below x5.heap.size x5 x6 := (by repeat' (first | with_reducible exact Below.refl _ _ | with_reducible assumption | with_reducible apply Below.drew | with_reducible apply below_drewN | with_reducible apply Below.alloc | with_reducible apply Below.setCell | (with_reducible refine Below.trans ?_ (Below.mono (by assumption) ?_)) | (simp; done) | (simp; omega) | omega | with_reducible apply le_size_alloc | with_reducible apply le_size_drewN | with_reducible apply le_size_drew | with_reducible apply le_size_setCell | refine Nat.le_trans ?_ (Below.size (by assumption))))
    clear hb
    replace KB : Hid (Blk x6 w.heap.size 24 #[.int .i64 p, .int .i64 q]) := Blk.below_ KB.out b KB.out.lt
    replace HS : Hid (CR mapE x6 A c l) := HS.out.ext b
    replace H1 : Hid (CR mapE x6 A1 c1 l) := H1.out.ext b
    replace B : Hid (Below w.heap.size w x6) := B.out.trans (b.mono B.out.size)
    have Pa : Hid (CR plE x6 A60 c60 L2) := hc60
    clear hc60
    clear p0 p1 zB
    clear b
    have p0 : x6.cell? ⟨w.heap.size, 0, none⟩ = some (.int .i64 p) := by simpa using KB.out.cell_ 0
    have p1 : x6.cell? ⟨w.heap.size, 1, none⟩ = some (.int .i64 q) := by simpa using KB.out.cell_ 1
    have zB : w.heap.size < x6.heap.size := KB.out.lt
    go_wp2_with fail
    refine (ROf_any A c l f _ HS.out la).mono ?_
    unfold OfPost
    rw [HO.out]
    rintro e x7 ⟨A70, c70, rfl, hc70, hb⟩
    have b : Below x6.heap.size x6 x7 := (by repeat' (first | with_reducible exact Below.refl _ _ | with_reducible assumption | with_reducible apply Below.drew | with_reducible apply below_drewN | with_reducible apply Below.alloc | with_reducible apply Below.setCell | (with_reducible refine Below.trans ?_ (Below.mono (by assumption) ?_)) | (simp; done) | (simp; omega) | omega | with_reducible apply le_size_alloc | with_reducible apply le_size_drewN | with_reducible apply le_size_drew | with_reducible apply le_size_setCell | refine Nat.le_trans ?_ (Below.size (by assumption))))
    clear hb
    replace KB : Hid (Blk x7 w.heap.size 24 #[.int .i64 p, .int .i64 q]) := Blk.below_ KB.out b KB.out.lt
    replace HS : Hid (CR mapE x7 A c l) := HS.out.ext b
    replace H1 : Hid (CR mapE x7 A1 c1 l) := H1.out.ext b
    replace Pa : Hid (CR plE x7 A60 c60 L2) := Pa.out.ext b
    replace B : Hid (Below w.heap.size w x7) := B.out.trans (b.mono B.out.size)
    have Pb : Hid (CR plE x7 A70 c70 L2) := hc70
    clear hc70
    clear p0 p1 zB
    clear b
    have p0 : x7.cell? ⟨w.heap.size, 0, none⟩ = some (.int .i64 p) := by simpa using KB.out.cell_ 0
    have p1 : x7.cell? ⟨w.heap.size, 1, none⟩ = some (.int .i64 q) := by simpa using KB.out.cell_ 1
    have zB : w.heap.size < x7.heap.size := KB.out.lt
    go_wp2_with fail
    refine (Counts_any A1 c1 l _ H1.out.1 la).mono ?_
    unfold CnsPost
    rw [HC.out]
    rintro e x8 ⟨A80, c80, rfl, hc80, hb⟩
    have b : Below x7.heap.size x7 x8 := (by repeat' (first | with_reducible exact Below.refl _ _ | with_reducible assumption | with_reducible apply Below.drew | with_reducible apply below_drewN | with_reducible apply Below.alloc | with_reducible apply Below.setCell | (with_reducible refine Below.trans ?_ (Below.mono (by assumption) ?_)) | (simp; done) | (simp; omega) | omega | with_reducible apply le_size_alloc | with_reducible apply le_size_drewN | with_reducible apply le_size_drew | with_reducible apply le_size_setCell | refine Nat.le_trans ?_ (Below.size (by assumption))))
    clear hb
    replace KB : Hid (Blk x8 w.heap.size 24 #[.int .i64 p, .int .i64 q]) := Blk.below_ KB.out b KB.out.lt
    replace HS : Hid (CR mapE x8 A c l) := HS.out.ext b
    replace H1 : Hid (CR mapE x8 A1 c1 l) := H1.out.ext b
    replace Pa : Hid (CR plE x8 A60 c60 L2) := Pa.out.ext b
    replace Pb : Hid (CR plE x8 A70 c70 L2) := Pb.out.ext b
    replace B : Hid (Below w.heap.size w x8) := B.out.trans (b.mono B.out.size)
    have Na : Hid (Sl x8 (.int .i64) A80 L4) := hc80
    clear hc80
    clear p0 p1 zB
    clear b
    have p0 : x8.cell? ⟨w.heap.size, 0, none⟩ = some (.int .i64 p) := by simpa using KB.out.cell_ 0
    have p1 : x8.cell? ⟨w.heap.size, 1, none⟩ = some (.int .i64 q) := by simpa using KB.out.cell_ 1
    have zB : w.heap.size < x8.heap.size := KB.out.lt
    go_wp2_with fail
    refine (RCounts_any A c l _ HS.out la).mono ?_
    unfold CnsPost
    rw [HC.out]
    rintro e x9 ⟨A90, c90, rfl, hc90, hb⟩
    have b : Below x8.heap.size x8 x9 := (by repeat' (first | with_reducible exact Below.refl _ _ | with_reducible assumption | with_reducible apply Below.drew | with_reducible apply below_drewN | with_reducible apply Below.alloc | with_reducible apply Below.setCell | (with_reducible refine Below.trans ?_ (Below.mono (by assumption) ?_)) | (simp; done) | (simp; omega) | omega | with_reducible apply le_size_alloc | with_reducible apply le_size_drewN | with_reducible apply le_size_drew | with_reducible apply le_size_setCell | refine Nat.le_trans ?_ (Below.size (by assumption))))
    clear hb
    replace KB : Hid (Blk x9 w.heap.size 24 #[.int .i64 p, .int .i64 q]) := Blk.below_ KB.out b KB.out.lt
    replace HS : Hid (CR mapE x9 A c l) := HS.out.ext b
    replace H1 : Hid (CR mapE x9 A1 c1 l) := H1.out.ext b
    replace Pa : Hid (CR plE x9 A60 c60 L2) := Pa.out.ext b
    replace Pb : Hid (CR plE x9 A70 c70 L2) := Pb.out.ext b
    replace Na : Hid (Sl x9 (.int .i64) A80 L4) := Na.out.ext b
    replace B : Hid (Below w.heap.size w x9) := B.out.trans (b.mono B.out.size)
    have Nb : Hid (Sl x9 (.int .i64) A90 L4) := hc90
    clear hc90
    clear p0 p1 zB
    clear b
    have p0 : x9.cell? ⟨w.heap.size, 0, none⟩ = some (.int .i64 p) := by simpa using KB.out.cell_ 0
    have p1 : x9.cell? ⟨w.heap.size, 1, none⟩ = some (.int .i64 q) := by simpa using KB.out.cell_ 1
    have zB : w.heap.size < x9.heap.size := KB.out.lt
    go_wp2_with fail
    refine (places_any A60 A70 c60 c70 L2 L2 _ Pa.out.1 Pb.out.1 l2 l2).mono ?_
    rw [decide_eq_true rfl]
    rintro e x10 ⟨rfl, hb⟩
    have b : Below x9.heap.size x9 x10 := (by repeat' (first | with_reducible exact Below.refl _ _ | with_reducible assumption | with_reducible apply Below.drew | with_reducible apply below_drewN | with_reducible apply Below.alloc | with_reducible apply Below.setCell | (with_reducible refine Below.trans ?_ (Below.mono (by assumption) ?_)) | (simp; done) | (simp; omega) | omega | with_reducible apply le_size_alloc | with_reducible apply le_size_drewN | with_reducible apply le_size_drew | with_reducible apply le_size_setCell | refine Nat.le_trans ?_ (Below.size (by assumption))))
    clear hb
    replace KB : Hid (Blk x10 w.heap.size 24 #[.int .i64 p, .int .i64 q]) := Blk.below_ KB.out b KB.out.lt
    replace HS : Hid (CR mapE x10 A c l) := HS.out.ext b
    replace H1 : Hid (CR mapE x10 A1 c1 l) := H1.out.ext b
    replace Pa : Hid (CR plE x10 A60 c60 L2) := Pa.out.ext b
    replace Pb : Hid (CR plE x10 A70 c70 L2) := Pb.out.ext b
    replace Na : Hid (Sl x10 (.int .i64) A80 L4) := Na.out.ext b
    replace Nb : Hid (Sl x10 (.int .i64) A90 L4) := Nb.out.ext b
    replace B : Hid (Below w.heap.size w x10) := B.out.trans (b.mono B.out.size)
    clear p0 p1 zB
    clear b
    have p0 : x10.cell? ⟨w.heap.size, 0, none⟩ = some (.int .i64 p) := by simpa using KB.out.cell_ 0
    have p1 : x10.cell? ⟨w.heap.size, 1, none⟩ = some (.int .i64 q) := by simpa using KB.out.cell_ 1
    have zB : w.heap.size < x10.heap.size := KB.out.lt
    go_wp2_with fail
    refine (SameInts_any A80 A90 c80 c90 L4 L4 _ Na.out Nb.out l4 l4).mono ?_
    rw [decide_eq_true rfl]
    rintro e x11 ⟨rfl, hb⟩
    have b : Below x10.heap.size x10 x11 := (by repeat' (first | with_reducible exact Below.refl _ _ | with_reducible assumption | with_reducible apply Below.drew | with_reducible apply below_drewN | with_reducible apply Below.alloc | with_reducible apply Below.setCell | (with_reducible refine Below.trans ?_ (Below.mono (by assumption) ?_)) | (simp; done) | (simp; omega) | omega | with_reducible apply le_size_alloc | with_reducible apply le_size_drewN | with_reducible apply le_size_drew | with_reducible apply le_size_setCell | refine Nat.le_trans ?_ (Below.size (by assumption))))
    clear hb
    replace KB : Hid (Blk x11 w.heap.size 24 #[.int .i64 p, .int .i64 q]) := Blk.below_ KB.out b KB.out.lt
    replace HS : Hid (CR mapE x11 A c l) := HS.out.ext b
    replace H1 : Hid (CR mapE x11 A1 c1 l) := H1.out.ext b
    replace Pa : Hid (CR plE x11 A60 c60 L2) := Pa.out.ext b
    replace Pb : Hid (CR plE x11 A70 c70 L2) := Pb.out.ext b
    replace Na : Hid (Sl x11 (.int .i64) A80 L4) := Na.out.ext b
    replace Nb : Hid (Sl x11 (.int .i64) A90 L4) := Nb.out.ext b
    replace B : Hid (Below w.heap.size w x11) := B.out.trans (b.mono B.out.size)
    clear p0 p1 zB
    clear b
    have p0 : x11.cell? ⟨w.heap.size, 0, none⟩ = some (.int .i64 p) := by simpa using KB.out.cell_ 0
    have p1 : x11.cell? ⟨w.heap.size, 1, none⟩ = some (.int .i64 q) := by simpa using KB.out.cell_ 1
    have zB : w.heap.size < x11.heap.size := KB.out.lt
    go_wp2_with fail
    refine (SameMaps_any A1 A c1 c l l _ H1.out.1 HS.out.1 la la).mono ?_
    rw [decide_eq_true rfl]
    rintro e x12 ⟨rfl, hb⟩
    have b : Below x11.heap.size x11 x12 := (by repeat' (first | with_reducible exact Below.refl _ _ | with_reducible assumption | with_reducible apply Below.drew | with_reducible apply below_drewN | with_reducible apply Below.alloc | with_reducible apply Below.setCell | (with_reducible refine Below.trans ?_ (Below.mono (by assumption) ?_)) | (simp; done) | (simp; omega) | omega | with_reducible apply le_size_alloc | with_reducible apply le_size_drewN | with_reducible apply le_size_drew | with_reducible apply le_size_setCell | refine Nat.le_trans ?_ (Below.size (by assumption))))
    clear hb
    replace KB : Hid (Blk x12 w.heap.size 24 #[.int .i64 p, .int .i64 q]) := Blk.below_ KB.out b KB.out.lt
    replace HS : Hid (CR mapE x12 A c l) := HS.out.ext b
    replace H1 : Hid (CR mapE x12 A1 c1 l) := H1.out.ext b
    replace Pa : Hid (CR plE x12 A60 c60 L2) := Pa.out.ext b
    replace Pb : Hid (CR plE x12 A70 c70 L2) := Pb.out.ext b
    replace Na : Hid (Sl x12 (.int .i64) A80 L4) := Na.out.ext b
    replace Nb : Hid (Sl x12 (.int .i64) A90 L4) := Nb.out.ext b
    replace B : Hid (Below w.heap.size w x12) := B.out.trans (b.mono B.out.size)
    clear p0 p1 zB
    clear b
    have p0 : x12.cell? ⟨w.heap.size, 0, none⟩ = some (.int .i64 p) := by simpa using KB.out.cell_ 0
    have p1 : x12.cell? ⟨w.heap.size, 1, none⟩ = some (.int .i64 q) := by simpa using KB.out.cell_ 1
    have zB : w.heap.size < x12.heap.size := KB.out.lt
    go_wp2_with fail
    refine (awake_any _).mono ?_
    rintro e x13 ⟨rfl, hb⟩
    have b : Below x12.heap.size x12 x13 := (by repeat' (first | with_reducible exact Below.refl _ _ | with_reducible assumption | with_reducible apply Below.drew | with_reducible apply below_drewN | with_reducible apply Below.alloc | with_reducible apply Below.setCell | (with_reducible refine Below.trans ?_ (Below.mono (by assumption) ?_)) | (simp; done) | (simp; omega) | omega | with_reducible apply le_size_alloc | with_reducible apply le_size_drewN | with_reducible apply le_size_drew | with_reducible apply le_size_setCell | refine Nat.le_trans ?_ (Below.size (by assumption))))
    clear hb
    replace KB : Hid (Blk x13 w.heap.size 24 #[.int .i64 p, .int .i64 q]) := Blk.below_ KB.out b KB.out.lt
    replace HS : Hid (CR mapE x13 A c l) := HS.out.ext b
    replace H1 : Hid (CR mapE x13 A1 c1 l) := H1.out.ext b
    replace Pa : Hid (CR plE x13 A60 c60 L2) := Pa.out.ext b
    replace Pb : Hid (CR plE x13 A70 c70 L2) := Pb.out.ext b
    replace Na : Hid (Sl x13 (.int .i64) A80 L4) := Na.out.ext b
    replace Nb : Hid (Sl x13 (.int .i64) A90 L4) := Nb.out.ext b
    replace B : Hid (Below w.heap.size w x13) := B.out.trans (b.mono B.out.size)
    clear p0 p1 zB
    clear b
    have p0 : x13.cell? ⟨w.heap.size, 0, none⟩ = some (.int .i64 p) := by simpa using KB.out.cell_ 0
    have p1 : x13.cell? ⟨w.heap.size, 1, none⟩ = some (.int .i64 q) := by simpa using KB.out.cell_ 1
    have zB : w.heap.size < x13.heap.size := KB.out.lt
    go_wp2_with fail
    go_ret
    exact ⟨rfl, B.out⟩


set_option maxRecDepth 100000 in
theorem rmapChecks_lifted (os : Os) (started : os.Started) (H : Type) (enc : TypeId × Value → H) :
    ReturnsInHanded {} Try.checked os 3 .any (Rows.rmapChecksSpec.pre6 enc Try.prog Try.f3 Rows.rmapChecksRow.domain false) (Rows.rmapChecksSpec.post enc Try.prog Try.f3 false true false false) := by
  refine returnsInHanded_of_change (C := Try.checked) own started (by kernel_rfl) Try.func3
    (ChangeSpec.witness6 (enc := enc) (C := Try.checked) false ⟨#[], #[.slice none 0 0, .int .i64 0, .agg #[.int .i64 0, .int .i64 0]], []⟩ 8 (by kernel_rfl) (by kernel_rfl) (by kernel_rfl) (by kernel_rfl)) ?_
  intro W base args ds gs before hval0 hW hcnd _
  have hval : ∀ (j : Nat) t v, Try.f3.params[j]? = some t → args[j]? = some v → Value.okWide Try.prog W .any base t v := hval0
  have hW' := hW
  obtain ⟨p, q, hA0, hV, rfl, hfz, hnd⟩ := hW
  have hA : DataW.TrodAll enc Try.prog W 0 (fun _ => true) true Try.f3.params.toList args.toList ds p := hA0
  rw [Try.params3] at hA hval
  obtain ⟨v0, vs0, d0, ds0, p0, q0, hargs, rfl, rfl, h0, r0⟩ := trodAll_cons hA
  obtain ⟨v1, vs1, d1, ds1, p1, q1, rfl, rfl, rfl, h1, r1⟩ := trodAll_cons r0
  obtain ⟨v2, vs2, d2, ds2, p2, q2, rfl, rfl, rfl, h2, r2⟩ := trodAll_cons r1
  obtain ⟨rfl, rfl, rfl⟩ := trodAll_nil r2
  obtain rfl : args = #[v0, v1, v2] := by cases args; simp_all
  obtain ⟨rfl, rfl⟩ := trodVars_none hV
  obtain ⟨A0, k0, a0, rfl, s0, l0⟩ := open_maps (hval 0 22 v0 rfl rfl) h0
  obtain ⟨a1, rfl, rfl, rfl, w1⟩ := open_int Try.underlying3 (hval 1 3 v1 rfl rfl) h1
  obtain ⟨c20, c21, y20, y21, m2, rfl, rfl, rfl, hy20, hy21⟩ := open_agg2 Try.underlying24 (by kernel_rfl) (by kernel_rfl) (hval 2 24 v2 rfl rfl) h2
  obtain ⟨a20, e20, f20, w20⟩ := DataW.trod_int Try.underlying3 hy20
  simp at e20; subst e20
  obtain ⟨a21, e21, f21, w21⟩ := DataW.trod_int Try.underlying3 hy21
  simp at e21; subst e21
  clear hA0 hval0
  refine (rmapChecks_walk A0 k0 a0 a1 a20 a21 W s0 l0 w1 w20 w21).mono fun e W' ⟨he, hb⟩ => ⟨_, he, ?_⟩
  exact law_post laidOut (s := Rows.rmapChecksSpec) (B := 4) rfl rfl Try.underlying4 (by decide +kernel) hW' rfl hb

theorem rmapChecks_holds : Rows.RmapChecksSaid :=
  OpenClaim.holds_of_wide 3 Try.f3 rfl rfl rfl rfl rfl rfl rfl ⟨rfl, rfl, rfl, rfl, rfl⟩ rfl rfl rfl rfl rfl (by kernel_rfl) Try.func3 (by kernel_rfl)
    (of_decide_eq_true (by kernel_rfl)) (by unfold Func.isWrapper; first | (rw [if_pos (by decide +kernel)]; kernel_rfl) | (rw [if_neg (by decide +kernel)]; exact ⟨rfl, rfl⟩))
    (fun os started H enc _ => rmapChecks_lifted os started H enc)

end Go.Proofs.Ytbeddhamnefpiaa
