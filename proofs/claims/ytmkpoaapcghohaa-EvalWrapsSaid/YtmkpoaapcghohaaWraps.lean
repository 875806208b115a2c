/- The walk of the law EvalWraps. -/
import Derived.Test.YtmkpoaapcghohaaAwake
namespace Go.Proofs.Ytmkpoaapcghohaa
open Go.RowKit
theorem wr_mod (n : Int) : wr n % 4294967296 = n % 4294967296 := by unfold wr; omega
theorem f_add (x y : Int) : wr (wr x + wr y) % 4294967296 = (x + y) % 4294967296 := by
  rw [wr_mod, Int.add_emod, wr_mod, wr_mod, ← Int.add_emod]
theorem f_sub (x y : Int) : wr (wr x - wr y) % 4294967296 = (x - y) % 4294967296 := by
  rw [wr_mod, Int.sub_emod, wr_mod, wr_mod, ← Int.sub_emod]
theorem f_mul (x y : Int) : wr (wr x * wr y) % 4294967296 = x % 4294967296 * (y % 4294967296) % 4294967296 := by
  rw [wr_mod, Int.mul_emod, wr_mod, wr_mod]
theorem bin_add {v x : Int} (hv : isV v = true) (hx : isV x = true) : bin 17 v x = (wr (v + x), 0, 0) := by rw [bin_num (by omega) hv hx]; rfl
theorem bin_sub {v x : Int} (hv : isV v = true) (hx : isV x = true) : bin 18 v x = (wr (v - x), 0, 0) := by rw [bin_num (by omega) hv hx]; rfl
theorem bin_mul {v x : Int} (hv : isV v = true) (hx : isV x = true) : bin 19 v x = (wr (v * x), 0, 0) := by rw [bin_num (by omega) hv hx]; rfl

set_option maxHeartbeats 4000000 in
theorem wraps3 (x y : Int) (hx0 : -9223372036854775808 ≤ x) (hx1 : x ≤ 9223372036854775807) (hy0 : -9223372036854775808 ≤ y) (hy1 : y ≤ 9223372036854775807) (w : World) :
    Calls Try.prog 3 #[.int .i64 x, .int .i64 y] w fun e w' => e = .returned (.bool true) ∧ Below w.heap.size w w' := by
  have HX0 := hid hx0
  have HX1 := hid hx1
  have HY0 := hid hy0
  have HY1 := hid hy1
  obtain ⟨a, ha⟩ : ∃ a, a = wr x := ⟨_, rfl⟩
  obtain ⟨b, hb⟩ : ∃ b, b = wr y := ⟨_, rfl⟩
  have va : isV a = true := by rw [ha]; exact wr_isV _
  have vb : isV b = true := by rw [hb]; exact wr_isV _
  have ba := isV_iff.1 va
  have hwa := hid (wr_id va)
  have C10 : ∀ W, Calls Try.prog 10 #[.int .i64 x] W fun e w' => e = .returned (.int .i64 a) ∧ W = w' := fun W => by rw [ha]; exact wrap10 x W hx0 hx1
  have C10' : ∀ W, Calls Try.prog 10 #[.int .i64 y] W fun e w' => e = .returned (.int .i64 b) ∧ W = w' := fun W => by rw [hb]; exact wrap10 y W hy0 hy1
  have C10a : ∀ W, Calls Try.prog 10 #[.int .i64 a] W fun e w' => e = .returned (.int .i64 a) ∧ W = w' := fun W => by
    have := wrap10 a W (by omega) (by omega)
    rwa [hwa.out] at this
  replace C10 := hid C10
  replace C10' := hid C10'
  replace C10a := hid C10a
  have t0 : (a % 4294967296 != x % 4294967296) = false := by rw [ha]; unfold wr; simp
  obtain ⟨s, hs⟩ : ∃ s, s = wr (a + b) := ⟨_, rfl⟩
  obtain ⟨d, hd⟩ : ∃ d, d = wr (a - b) := ⟨_, rfl⟩
  obtain ⟨m, hm⟩ : ∃ m, m = wr (a * b) := ⟨_, rfl⟩
  have B1 : ∀ W, Calls Try.prog 13 #[.int .i64 17, .int .i64 a, .int .i64 b] W fun e w' => e = .returned (.tuple #[.int .i64 s, .int .i64 0, .int .i64 0]) ∧ Below W.heap.size W w' := bin13at (by rw [hs]; exact bin_add va vb)
  have B2 : ∀ W, Calls Try.prog 13 #[.int .i64 18, .int .i64 a, .int .i64 b] W fun e w' => e = .returned (.tuple #[.int .i64 d, .int .i64 0, .int .i64 0]) ∧ Below W.heap.size W w' := bin13at (by rw [hd]; exact bin_sub va vb)
  have B3 : ∀ W, Calls Try.prog 13 #[.int .i64 19, .int .i64 a, .int .i64 b] W fun e w' => e = .returned (.tuple #[.int .i64 m, .int .i64 0, .int .i64 0]) ∧ Below W.heap.size W w' := bin13at (by rw [hm]; exact bin_mul va vb)
  replace B1 := hid B1
  replace B2 := hid B2
  replace B3 := hid B3
  have F1 : Hid (s % 4294967296 = (x + y) % 4294967296) := hid (by rw [hs, ha, hb]; exact f_add x y)
  have F2 : Hid (d % 4294967296 = (x - y) % 4294967296) := hid (by rw [hd, ha, hb]; exact f_sub x y)
  have F3 : Hid (m % 4294967296 = x % 4294967296 * (y % 4294967296) % 4294967296) := hid (by rw [hm, ha, hb]; exact f_mul x y)
  have HA := hid ha
  have HB := hid hb
  clear hs hd hm
  clear ha hb ba hx0 hx1 hy0 hy1
  go_enter Try.func3, Try.ntmps3
  go_wp2_with fail
  refine (C10.out _).mono ?_
  rintro e w1 ⟨rfl, rfl⟩
  go_wp2_with fail
  refine (C10'.out _).mono ?_
  rintro e w1 ⟨rfl, rfl⟩
  go_wp2_with fail
  refine (C10a.out _).mono ?_
  rintro e w1 ⟨rfl, rfl⟩
  go_wp2_with (first | (go_at_call 11; refine (isV11 _ _).mono ?_; rintro e w' ⟨rfl, rfl⟩) | (go_at_call 12; refine (isV12 _ _).mono ?_; rintro e w' ⟨rfl, rfl⟩))
  refine (B1.out _).mono ?_
  rintro e w1 ⟨rfl, hb1⟩
  go_wp2_with fail
  refine (B2.out _).mono ?_
  rintro e w2 ⟨rfl, hb2⟩
  go_wp2_with fail
  refine (B3.out _).mono ?_
  rintro e w3 ⟨rfl, hb3⟩
  have f1 := F1.out
  have f2 := F2.out
  have f3 := F3.out
  go_wp2_with (go_at_call 14; refine (awake14 _).mono ?_; rintro e w4 ⟨rfl, hb4⟩)
  go_ret
  have s1 := hb1.size
  have s2 := hb2.size
  have s3 := hb3.size
  exact ⟨rfl, ((hb1.trans (hb2.mono s1)).trans (hb3.mono (by omega))).trans (hb4.mono (by omega))⟩
end Go.Proofs.Ytmkpoaapcghohaa
