/- The walk of the law EvalQuotients. -/
import Derived.Test.YtmkpoaapcghohaaAwake
namespace Go.Proofs.Ytmkpoaapcghohaa
open Go.RowKit

theorem wrap32_wr (n : Int) : wrap64 (wrap32 n) = wr n := by unfold wrap64 wrap32 wr; omega
set_option maxHeartbeats 1000000 in
theorem wrap15 (n : Int) (w : World) : Calls Try.prog 15 #[.int .i64 n] w fun e w' => e = .returned (.int .i64 (wr n)) ∧ w = w' := by
  have H := hid (wrap32_wr n)
  go_enter Try.func15, Try.ntmps15
  go_wp2
  go_ret
  exact ⟨retInt H.out, rfl⟩

theorem bin_quo {v x : Int} (hv : isV v = true) (hx : isV x = true) (h : x ≠ 0) : bin 20 v x = (wr (v.tdiv x), 0, 0) := by rw [bin_num (by omega) hv hx]; simp [numb, h]
theorem bin_rem {v x : Int} (hv : isV v = true) (hx : isV x = true) (h : x ≠ 0) : bin 21 v x = (wr (v.tmod x), 0, 0) := by rw [bin_num (by omega) hv hx]; simp [numb, h]
theorem bin_quo0 {v : Int} (hv : isV v = true) : bin 20 v 0 = (0, 1, 0) := by rw [bin_num (by omega) hv (by decide)]; simp [numb]
theorem bin_rem0 {v : Int} (hv : isV v = true) : bin 21 v 0 = (0, 1, 0) := by rw [bin_num (by omega) hv (by decide)]; simp [numb]

/-- what the law needs to know of quotient and rest -/
theorem quot_facts {a b q r : Int} (va : isV a = true) (vb : isV b = true) (hb : b ≠ 0) (hq : q = wr (a.tdiv b)) (hr : r = wr (a.tmod b)) :
    wr (q * b + r) = a ∧ (-2147483648 ≤ q ∧ q ≤ 2147483647) ∧ ((r < 0 ∧ a < 0) ∨ r = 0 ∨ (0 < r ∧ ¬ a < 0)) ∧
    (0 ≤ r → 0 < b → r < b) ∧ (0 ≤ r → b < 0 → r < -b) ∧ (r < 0 → 0 < b → -r < b) ∧ (r < 0 → b < 0 → -r < -b) := by
  have ba := isV_iff.1 va
  have bb := isV_iff.1 vb
  have h1 : (a.tmod b).natAbs < b.natAbs := by rw [Int.natAbs_tmod]; exact Nat.mod_lt _ (by omega)
  have h2 : 0 ≤ a → 0 ≤ a.tmod b := fun h => Int.tmod_nonneg b h
  have h3 : a ≤ 0 → a.tmod b ≤ 0 := fun h => by
    have h4 : (-a).tmod b = -(a.tmod b) := Int.neg_tmod a b
    have h5 := Int.tmod_nonneg b (show 0 ≤ -a by omega)
    omega
  have hr' : r = a.tmod b := by rw [hr]; apply wr_id; apply isV_iff.2; omega
  have hdm : b * a.tdiv b + a.tmod b = a := Int.mul_tdiv_add_tmod a b
  have hqq : wr (a.tdiv b) = a.tdiv b ∨ (wr (a.tdiv b) = a.tdiv b - 4294967296) := by
    have := tdiv_bd (x := b) ba
    unfold wr
    omega
  refine ⟨?_, by rw [hq]; exact wr_bd _, by omega, by omega, by omega, by omega, by omega⟩
  have e : (q * b + r) % 4294967296 = a % 4294967296 := by
    rw [hq, hr']
    rcases hqq with h | h
    · rw [h, Int.mul_comm, hdm]
    · rw [h, Int.sub_mul, Int.mul_comm, show b * a.tdiv b - 4294967296 * b + a.tmod b = (b * a.tdiv b + a.tmod b) + 4294967296 * (-b) by
        rw [Int.mul_neg]; omega, hdm, Int.add_mul_emod_self_left]
  have := wr_id va
  have e2 : wr (q * b + r) = wr a := by
    unfold wr
    rw [Int.add_emod, e, ← Int.add_emod]
  rw [e2, this]

set_option maxHeartbeats 4000000 in
theorem quot4zero (x y : Int) (h0 : wr y = 0) (w : World) :
    Calls Try.prog 4 #[.int .i64 x, .int .i64 y] w fun e w' => e = .returned (.bool true) ∧ Below w.heap.size w w' := by
  obtain ⟨a, ha⟩ : ∃ a, a = wr x := ⟨_, rfl⟩
  have va : isV a = true := by rw [ha]; exact wr_isV _
  have C1 : ∀ W, Calls Try.prog 15 #[.int .i64 x] W fun e w' => e = .returned (.int .i64 a) ∧ W = w' := fun W => by rw [ha]; exact wrap15 x W
  have C2 : ∀ W, Calls Try.prog 15 #[.int .i64 y] W fun e w' => e = .returned (.int .i64 0) ∧ W = w' := fun W => by rw [← h0]; exact wrap15 y W
  have B1 := hid (bin13at (bin_quo0 va))
  have B2 := hid (bin13at (bin_rem0 va))
  replace C1 := hid C1
  replace C2 := hid C2
  clear ha va h0
  go_enter Try.func4, Try.ntmps4
  go_wp2_with fail
  refine (C1.out _).mono ?_
  rintro e w1 ⟨rfl, rfl⟩
  go_wp2_with fail
  refine (C2.out _).mono ?_
  rintro e w1 ⟨rfl, rfl⟩
  go_wp2_with fail
  refine (B1.out _).mono ?_
  rintro e w1 ⟨rfl, hb1⟩
  go_wp2_with fail
  refine (B2.out _).mono ?_
  rintro e w2 ⟨rfl, hb2⟩
  go_wp2_with (go_at_call 14; refine (awake14 _).mono ?_; rintro e w4 ⟨rfl, hb4⟩)
  go_ret
  have s1 := hb1.size
  have s2 := hb2.size
  exact ⟨rfl, (hb1.trans (hb2.mono s1)).trans (hb4.mono (by omega))⟩

set_option maxHeartbeats 8000000 in
theorem quot4 (x y : Int) (h0 : wr y ≠ 0) (w : World) :
    Calls Try.prog 4 #[.int .i64 x, .int .i64 y] w fun e w' => e = .returned (.bool true) ∧ Below w.heap.size w w' := by
  obtain ⟨a, ha⟩ : ∃ a, a = wr x := ⟨_, rfl⟩
  obtain ⟨b, hb⟩ : ∃ b, b = wr y := ⟨_, rfl⟩
  rw [← hb] at h0
  have va : isV a = true := by rw [ha]; exact wr_isV _
  have vb : isV b = true := by rw [hb]; exact wr_isV _
  have C1 : ∀ W, Calls Try.prog 15 #[.int .i64 x] W fun e w' => e = .returned (.int .i64 a) ∧ W = w' := fun W => by rw [ha]; exact wrap15 x W
  have C2 : ∀ W, Calls Try.prog 15 #[.int .i64 y] W fun e w' => e = .returned (.int .i64 b) ∧ W = w' := fun W => by rw [hb]; exact wrap15 y W
  clear ha hb
  obtain ⟨q, hq⟩ : ∃ q, q = wr (a.tdiv b) := ⟨_, rfl⟩
  obtain ⟨r, hr⟩ : ∃ r, r = wr (a.tmod b) := ⟨_, rfl⟩
  obtain ⟨F1, ⟨F2, F3⟩, F4, F5, F6, F7, F8⟩ := quot_facts va vb h0 hq hr
  have B1 := hid (bin13at (bin_quo va vb h0))
  have B2 := hid (bin13at (bin_rem va vb h0))
  rw [← hq] at B1
  rw [← hr] at B2
  have hrb : -2147483648 ≤ r ∧ r ≤ 2147483647 := by rw [hr]; exact wr_bd _
  obtain ⟨hr0, hr1⟩ := hrb
  obtain ⟨hb0, hb1⟩ := isV_iff.1 vb
  have M := mul_bd ⟨F2, F3⟩ ⟨hb0, hb1⟩
  have M1 : wrap64 (q * b) = q * b := wrap64_in' (by omega) (by omega)
  have M2 : wrap64 (q * b + r) = q * b + r := wrap64_in' (by omega) (by omega)
  have C3 : ∀ W, Calls Try.prog 15 #[.int .i64 (q * b + r)] W fun e w' => e = .returned (.int .i64 a) ∧ W = w' := fun W => by
    have := wrap15 (q * b + r) W
    rwa [F1] at this
  replace C1 := hid C1
  replace C2 := hid C2
  replace C3 := hid C3
  have hbz : (b == 0) = false := by simpa using h0
  clear hq hr F1 M va vb h0
  have hbs : b < 0 ∨ 0 < b := by have : b ≠ 0 := by simpa using hbz
                                 omega
  rcases F4 with ⟨g1, g2⟩ | g1 | ⟨g1, g2⟩
  · have z1 : (r != 0) = true := by rw [bne_iff_ne]; omega
    rcases hbs with k | k
    · have G := F8 g1 k
      have G2 : b < -b := by omega
      have G3 : r < -r := by omega
      clear F5 F6 F7 F8
      go_enter Try.func4, Try.ntmps4
      go_wp2_with fail
      refine (C1.out _).mono ?_
      rintro e w1 ⟨rfl, rfl⟩
      go_wp2_with fail
      refine (C2.out _).mono ?_
      rintro e w1 ⟨rfl, rfl⟩
      go_wp2_with fail
      refine (B1.out _).mono ?_
      rintro e w1 ⟨rfl, hb1⟩
      go_wp2_with fail
      refine (B2.out _).mono ?_
      rintro e w2 ⟨rfl, hb2⟩
      go_wp2_with fail
      refine (C3.out _).mono ?_
      rintro e w3 ⟨rfl, rfl⟩
      go_wp2_with (go_at_call 14; refine (awake14 _).mono ?_; rintro e w4 ⟨rfl, hb4⟩)
      go_ret
      have s1 := hb1.size
      have s2 := hb2.size
      exact ⟨rfl, (hb1.trans (hb2.mono s1)).trans (hb4.mono (by omega))⟩
    · have G := F7 g1 k
      have G2 : ¬ b < -b := by omega
      have G3 : r < -r := by omega
      clear F5 F6 F7 F8
      go_enter Try.func4, Try.ntmps4
      go_wp2_with fail
      refine (C1.out _).mono ?_
      rintro e w1 ⟨rfl, rfl⟩
      go_wp2_with fail
      refine (C2.out _).mono ?_
      rintro e w1 ⟨rfl, rfl⟩
      go_wp2_with fail
      refine (B1.out _).mono ?_
      rintro e w1 ⟨rfl, hb1⟩
      go_wp2_with fail
      refine (B2.out _).mono ?_
      rintro e w2 ⟨rfl, hb2⟩
      go_wp2_with fail
      refine (C3.out _).mono ?_
      rintro e w3 ⟨rfl, rfl⟩
      go_wp2_with (go_at_call 14; refine (awake14 _).mono ?_; rintro e w4 ⟨rfl, hb4⟩)
      go_ret
      have s1 := hb1.size
      have s2 := hb2.size
      exact ⟨rfl, (hb1.trans (hb2.mono s1)).trans (hb4.mono (by omega))⟩
  · subst g1
    simp only [Int.add_zero] at C3
    clear M2
    rcases hbs with k | k
    · have G := F6 (by omega) k
      have G2 : b < -b := by omega
      clear F5 F6 F7 F8
      go_enter Try.func4, Try.ntmps4
      go_wp2_with fail
      refine (C1.out _).mono ?_
      rintro e w1 ⟨rfl, rfl⟩
      go_wp2_with fail
      refine (C2.out _).mono ?_
      rintro e w1 ⟨rfl, rfl⟩
      go_wp2_with fail
      refine (B1.out _).mono ?_
      rintro e w1 ⟨rfl, hb1⟩
      go_wp2_with fail
      refine (B2.out _).mono ?_
      rintro e w2 ⟨rfl, hb2⟩
      go_wp2_with fail
      refine (C3.out _).mono ?_
      rintro e w3 ⟨rfl, rfl⟩
      go_wp2_with (go_at_call 14; refine (awake14 _).mono ?_; rintro e w4 ⟨rfl, hb4⟩)
      go_ret
      have s1 := hb1.size
      have s2 := hb2.size
      exact ⟨rfl, (hb1.trans (hb2.mono s1)).trans (hb4.mono (by omega))⟩
    · have G := F5 (by omega) k
      have G2 : ¬ b < -b := by omega
      clear F5 F6 F7 F8
      go_enter Try.func4, Try.ntmps4
      go_wp2_with fail
      refine (C1.out _).mono ?_
      rintro e w1 ⟨rfl, rfl⟩
      go_wp2_with fail
      refine (C2.out _).mono ?_
      rintro e w1 ⟨rfl, rfl⟩
      go_wp2_with fail
      refine (B1.out _).mono ?_
      rintro e w1 ⟨rfl, hb1⟩
      go_wp2_with fail
      refine (B2.out _).mono ?_
      rintro e w2 ⟨rfl, hb2⟩
      go_wp2_with fail
      refine (C3.out _).mono ?_
      rintro e w3 ⟨rfl, rfl⟩
      go_wp2_with (go_at_call 14; refine (awake14 _).mono ?_; rintro e w4 ⟨rfl, hb4⟩)
      go_ret
      have s1 := hb1.size
      have s2 := hb2.size
      exact ⟨rfl, (hb1.trans (hb2.mono s1)).trans (hb4.mono (by omega))⟩
  · have z1 : (r != 0) = true := by rw [bne_iff_ne]; omega
    have z2 : ¬ r < 0 := by omega
    have z3 : ¬ r < -r := by omega
    rcases hbs with k | k
    · have G := F6 (by omega) k
      have G2 : b < -b := by omega
      clear F5 F6 F7 F8
      go_enter Try.func4, Try.ntmps4
      go_wp2_with fail
      refine (C1.out _).mono ?_
      rintro e w1 ⟨rfl, rfl⟩
      go_wp2_with fail
      refine (C2.out _).mono ?_
      rintro e w1 ⟨rfl, rfl⟩
      go_wp2_with fail
      refine (B1.out _).mono ?_
      rintro e w1 ⟨rfl, hb1⟩
      go_wp2_with fail
      refine (B2.out _).mono ?_
      rintro e w2 ⟨rfl, hb2⟩
      go_wp2_with fail
      refine (C3.out _).mono ?_
      rintro e w3 ⟨rfl, rfl⟩
      go_wp2_with (go_at_call 14; refine (awake14 _).mono ?_; rintro e w4 ⟨rfl, hb4⟩)
      go_ret
      have s1 := hb1.size
      have s2 := hb2.size
      exact ⟨rfl, (hb1.trans (hb2.mono s1)).trans (hb4.mono (by omega))⟩
    · have G := F5 (by omega) k
      have G2 : ¬ b < -b := by omega
      clear F5 F6 F7 F8
      go_enter Try.func4, Try.ntmps4
      go_wp2_with fail
      refine (C1.out _).mono ?_
      rintro e w1 ⟨rfl, rfl⟩
      go_wp2_with fail
      refine (C2.out _).mono ?_
      rintro e w1 ⟨rfl, rfl⟩
      go_wp2_with fail
      refine (B1.out _).mono ?_
      rintro e w1 ⟨rfl, hb1⟩
      go_wp2_with fail
      refine (B2.out _).mono ?_
      rintro e w2 ⟨rfl, hb2⟩
      go_wp2_with fail
      refine (C3.out _).mono ?_
      rintro e w3 ⟨rfl, rfl⟩
      go_wp2_with (go_at_call 14; refine (awake14 _).mono ?_; rintro e w4 ⟨rfl, hb4⟩)
      go_ret
      have s1 := hb1.size
      have s2 := hb2.size
      exact ⟨rfl, (hb1.trans (hb2.mono s1)).trans (hb4.mono (by omega))⟩

end Go.Proofs.Ytmkpoaapcghohaa
