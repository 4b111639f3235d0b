/- Marks, a class and a number of free frames made of a number. -/
import Derived.Test.YtdkangjjiikdiaaLZKnown
namespace Go.Proofs.Ytdkangjjiikdiaa
open Go.RowKit Go.Maps

def MadeOk (w : World) (e : Ending) (w' : World) : Prop := ∃ mn lo hi c free : Int, e = .returned (.tuple #[.agg #[.int .i64 mn, .int .i64 lo, .int .i64 hi], .int .i64 c, .int .i64 free]) ∧
  0 ≤ mn ∧ mn < lo ∧ lo < hi ∧ hi ≤ 59 ∧ 1 ≤ c ∧ c ≤ 3 ∧ 0 ≤ free ∧ free ≤ 99 ∧ Below w.heap.size w w'

set_option maxRecDepth 100000 in
set_option maxHeartbeats 1000000 in
theorem made_any (n : Int) (w : World) : Calls Try.prog 28 #[.int .i64 n] w (MadeOk w) := by
  obtain ⟨k, hk⟩ : ∃ k, k = n % 1073741824 := ⟨_, rfl⟩
  have k0 : 0 ≤ k := by omega
  have k1 : k < 1073741824 := by omega
  have HK := Lib.hid hk
  clear hk
  go_enter Try.func28, Try.ntmps28
  go_wp2_with (go_at_call 29; refine (Mod_any _ _ _ (by omega) (by omega)).mono ?_; rw [← HK.out]; rintro e w' ⟨rfl, rfl⟩)
  refine bodyPost_ret (v := .tuple #[.agg #[.int .i64 (k % 20), .int .i64 (k % 20 + 1 + k / 20 % 20), .int .i64 (k % 20 + 1 + k / 20 % 20 + 1 + k / 400 % 20)], .int .i64 (1 + k / 8000 % 3), .int .i64 (k / 24000 % 100)]) (by simp [results, Try.results28, go_sem]) rfl ?_
  exact ⟨_, _, _, _, _, rfl, by omega, by omega, by omega, by omega, by omega, by omega, by omega, by omega, (by repeat' (first | with_reducible exact Below.refl _ _ | with_reducible assumption | with_reducible apply Below.drew | with_reducible apply below_drewN | with_reducible apply Below.alloc | with_reducible apply Below.setCell | (with_reducible refine Below.trans ?_ (Below.mono (by assumption) ?_)) | (simp; done) | (simp; omega) | omega | with_reducible apply le_size_alloc | with_reducible apply le_size_drewN | refine Nat.le_trans ?_ (Below.size (by assumption))))⟩

theorem zchd_zero {mn lo hi c free n : Int} (h1 : 0 ≤ mn) (h2 : mn < lo) (h3 : lo < hi) (h4 : hi ≤ 256) (h5 : 1 ≤ c) (h6 : c ≤ 3) (h7 : 0 ≤ free) (h8 : free ≤ 256) (h9 : 0 ≤ n) (h10 : n ≤ 256) :
    zchd mn lo hi c free n = 0 := by
  have hz : zchk mn lo hi 256 = 0 := by unfold zchk; rw [if_neg (by omega), if_neg (by omega), if_pos (by omega)]
  unfold zchd; rw [hz, if_neg (by simp), if_neg (by omega), if_pos (by omega)]
theorem takeR_ok {mn lo hi c free n : Int} (h1 : 0 ≤ mn) (h2 : mn < lo) (h3 : lo < hi) (h4 : hi ≤ 256) (h5 : 1 ≤ c) (h6 : c ≤ 3) (h7 : 0 ≤ free) (h8 : free ≤ 256) (h9 : 0 ≤ n) (h10 : n ≤ 256) :
    takeR mn lo hi c free n = .tuple #[.int .i64 (min n (max (free - flo mn hi c) 0)), .int .i64 (free - min n (max (free - flo mn hi c) 0)), .int .i64 0] := by
  unfold takeR; rw [zchd_zero h1 h2 h3 h4 h5 h6 h7 h8 h9 h10, if_neg (by simp)]
theorem needsR_ok {mn lo hi c free n : Int} (h1 : 0 ≤ mn) (h2 : mn < lo) (h3 : lo < hi) (h4 : hi ≤ 256) (h5 : 1 ≤ c) (h6 : c ≤ 3) (h7 : 0 ≤ free) (h8 : free ≤ 256) (h9 : 0 ≤ n) (h10 : n ≤ 256) :
    needsR mn lo hi c free n = .tuple #[.int .i64 (if n = 0 then 0 else max (flo mn hi c + n - free) 0), .int .i64 0] := by
  unfold needsR; rw [zchd_zero h1 h2 h3 h4 h5 h6 h7 h8 h9 h10, if_neg (by simp)]; split <;> rfl
theorem mayR_ok {mn lo hi c free : Int} (h1 : 0 ≤ mn) (h2 : mn < lo) (h3 : lo < hi) (h4 : hi ≤ 256) (h5 : 1 ≤ c) (h6 : c ≤ 3) (h7 : 0 ≤ free) (h8 : free ≤ 256) :
    mayR mn lo hi c free = .tuple #[.bool (decide (flo mn hi c < free)), .int .i64 0] := by
  unfold mayR; rw [zchd_zero h1 h2 h3 h4 h5 h6 h7 h8 (by omega) (by omega)]; simp
end Go.Proofs.Ytdkangjjiikdiaa
