/- Contracts: comparisons by an operator, the operators of numbers. -/
import Derived.Test.YtmkpoaapcghohaaLeafA
namespace Go.Proofs.Ytmkpoaapcghohaa
open Go.RowKit

/-- what a comparison returns -/
def cmpOp (op v x : Int) : Int :=
  if op = 11 then tr (v == x) else if op = 12 then tr (v != x) else if op = 13 then tr (decide (v < x)) else if op = 14 then tr (decide (v ≤ x))
  else if op = 15 then tr (decide (x < v)) else tr (decide (x ≤ v))

theorem cmpI_eq (v x : Int) : (cmpI v x == 0) = (v == x) := by unfold cmpI; rw [Bool.eq_iff_iff]; simp only [beq_iff_eq]; split <;> (try split) <;> omega
theorem cmpI_ne (v x : Int) : (cmpI v x != 0) = (v != x) := by unfold cmpI; rw [Bool.eq_iff_iff]; simp only [bne_iff_ne, ne_eq]; split <;> (try split) <;> omega
theorem cmpI_lt (v x : Int) : decide (cmpI v x < 0) = decide (v < x) := by unfold cmpI; rw [Bool.eq_iff_iff]; simp only [decide_eq_true_eq]; split <;> (try split) <;> omega
theorem cmpI_le (v x : Int) : decide (cmpI v x ≤ 0) = decide (v ≤ x) := by unfold cmpI; rw [Bool.eq_iff_iff]; simp only [decide_eq_true_eq]; split <;> (try split) <;> omega
theorem cmpI_gt (v x : Int) : decide (0 < cmpI v x) = decide (x < v) := by unfold cmpI; rw [Bool.eq_iff_iff]; simp only [decide_eq_true_eq]; split <;> (try split) <;> omega
theorem cmpI_ge (v x : Int) : decide (0 ≤ cmpI v x) = decide (x ≤ v) := by unfold cmpI; rw [Bool.eq_iff_iff]; simp only [decide_eq_true_eq]; split <;> (try split) <;> omega

theorem cmpOp_11 (v x : Int) : cmpOp 11 v x = tr (cmpI v x == 0) := by rw [cmpI_eq]; rfl
theorem cmpOp_12 (v x : Int) : cmpOp 12 v x = tr (cmpI v x != 0) := by rw [cmpI_ne]; rfl
theorem cmpOp_13 (v x : Int) : cmpOp 13 v x = tr (decide (cmpI v x < 0)) := by rw [cmpI_lt]; rfl
theorem cmpOp_14 (v x : Int) : cmpOp 14 v x = tr (decide (cmpI v x ≤ 0)) := by rw [cmpI_le]; rfl
theorem cmpOp_15 (v x : Int) : cmpOp 15 v x = tr (decide (0 < cmpI v x)) := by rw [cmpI_gt]; rfl
theorem cmpOp_16 (v x : Int) : cmpOp 16 v x = tr (decide (0 ≤ cmpI v x)) := by rw [cmpI_ge]; rfl

set_option maxHeartbeats 1000000 in
theorem compared32 (op v x : Int) (h0 : 11 ≤ op) (h1 : op ≤ 16) (w : World) :
    Calls Try.prog 32 #[.int .i64 op, .int .i64 v, .int .i64 x] w fun e w' => e = .returned (.int .i64 (cmpOp op v x)) ∧ w = w' := by
  rcases (show op = 11 ∨ op = 12 ∨ op = 13 ∨ op = 14 ∨ op = 15 ∨ op = 16 by omega) with rfl | rfl | rfl | rfl | rfl | rfl <;> clear h0 h1
  · have H := hid (cmpOp_11 v x)
    generalize cmpOp 11 v x = r at *
    go_enter Try.func32, Try.ntmps32
    go_wp2_with (first | (go_at_call 47; refine (cmp47 _ _ _).mono ?_; rintro e w' ⟨rfl, rfl⟩) | (go_at_call 48; refine (truth48 _ _).mono ?_; rintro e w' ⟨rfl, rfl⟩))
    go_ret
    exact ⟨retInt H.out.symm, rfl⟩
  · have H := hid (cmpOp_12 v x)
    generalize cmpOp 12 v x = r at *
    go_enter Try.func32, Try.ntmps32
    go_wp2_with (first | (go_at_call 47; refine (cmp47 _ _ _).mono ?_; rintro e w' ⟨rfl, rfl⟩) | (go_at_call 48; refine (truth48 _ _).mono ?_; rintro e w' ⟨rfl, rfl⟩))
    go_ret
    exact ⟨retInt H.out.symm, rfl⟩
  · have H := hid (cmpOp_13 v x)
    generalize cmpOp 13 v x = r at *
    go_enter Try.func32, Try.ntmps32
    go_wp2_with (first | (go_at_call 47; refine (cmp47 _ _ _).mono ?_; rintro e w' ⟨rfl, rfl⟩) | (go_at_call 48; refine (truth48 _ _).mono ?_; rintro e w' ⟨rfl, rfl⟩))
    go_ret
    exact ⟨retInt H.out.symm, rfl⟩
  · have H := hid (cmpOp_14 v x)
    generalize cmpOp 14 v x = r at *
    go_enter Try.func32, Try.ntmps32
    go_wp2_with (first | (go_at_call 47; refine (cmp47 _ _ _).mono ?_; rintro e w' ⟨rfl, rfl⟩) | (go_at_call 48; refine (truth48 _ _).mono ?_; rintro e w' ⟨rfl, rfl⟩))
    go_ret
    exact ⟨retInt H.out.symm, rfl⟩
  · have H := hid (cmpOp_15 v x)
    generalize cmpOp 15 v x = r at *
    go_enter Try.func32, Try.ntmps32
    go_wp2_with (first | (go_at_call 47; refine (cmp47 _ _ _).mono ?_; rintro e w' ⟨rfl, rfl⟩) | (go_at_call 48; refine (truth48 _ _).mono ?_; rintro e w' ⟨rfl, rfl⟩))
    go_ret
    exact ⟨retInt H.out.symm, rfl⟩
  · have H := hid (cmpOp_16 v x)
    generalize cmpOp 16 v x = r at *
    go_enter Try.func32, Try.ntmps32
    go_wp2_with (first | (go_at_call 47; refine (cmp47 _ _ _).mono ?_; rintro e w' ⟨rfl, rfl⟩) | (go_at_call 48; refine (truth48 _ _).mono ?_; rintro e w' ⟨rfl, rfl⟩))
    go_ret
    exact ⟨retInt H.out.symm, rfl⟩

/-! the operators of numbers -/
theorem mul_bd {v x : Int} (hv : -2147483648 ≤ v ∧ v ≤ 2147483647) (hx : -2147483648 ≤ x ∧ x ≤ 2147483647) :
    -4611686018427387904 ≤ v * x ∧ v * x ≤ 4611686018427387904 := by
  obtain ⟨hv0, hv1⟩ := hv
  obtain ⟨hx0, hx1⟩ := hx
  have ha : (v * x).natAbs ≤ 2147483648 * 2147483648 := by
    rw [Int.natAbs_mul]
    exact Nat.mul_le_mul (by omega) (by omega)
  omega
theorem wrap64_in' {n : Int} (h0 : -9223372036854775808 ≤ n) (h1 : n ≤ 9223372036854775807) : wrap64 n = n := by unfold wrap64; omega
theorem mul_wrap {v x : Int} (hv : -2147483648 ≤ v ∧ v ≤ 2147483647) (hx : -2147483648 ≤ x ∧ x ≤ 2147483647) : wrap64 (v * x) = v * x := by
  have := mul_bd hv hx
  exact wrap64_in' (by omega) (by omega)
theorem tdiv_bd {v x : Int} (hv : -2147483648 ≤ v ∧ v ≤ 2147483647) : -2147483648 ≤ v.tdiv x ∧ v.tdiv x ≤ 2147483648 := by
  have h : (v.tdiv x).natAbs ≤ v.natAbs := by rw [Int.natAbs_tdiv]; exact Nat.div_le_self _ _
  omega
theorem tdiv_wrap {v x : Int} (hv : -2147483648 ≤ v ∧ v ≤ 2147483647) : wrap64 (v.tdiv x) = v.tdiv x := by
  have := tdiv_bd (x := x) hv
  exact wrap64_in' (by omega) (by omega)
theorem tmod_bd {v x : Int} (hv : -2147483648 ≤ v ∧ v ≤ 2147483647) : -2147483648 ≤ v.tmod x ∧ v.tmod x ≤ 2147483648 := by
  have h : (v.tmod x).natAbs ≤ v.natAbs := by rw [Int.natAbs_tmod]; exact Nat.mod_le _ _
  omega

/-- result, fault, is it an operator -/
def numb (op v x : Int) : Int × Int × Bool :=
  if op = 17 then (wr (v + x), 0, true) else if op = 18 then (wr (v - x), 0, true) else if op = 19 then (wr (v * x), 0, true)
  else if op = 20 then (if x = 0 then (0, 1, true) else (wr (v.tdiv x), 0, true)) else if op = 21 then (if x = 0 then (0, 1, true) else (wr (v.tmod x), 0, true))
  else (0, 0, false)

def NumbSays (op v x : Int) (w : World) (e : Ending) (w' : World) : Prop :=
  e = .returned (.tuple #[.int .i64 (numb op v x).1, .int .i64 (numb op v x).2.1, .bool (numb op v x).2.2]) ∧ w = w'
theorem NumbSays.mk {op v x r f : Int} {b : Bool} {w : World} (h : numb op v x = (r, f, b)) : NumbSays op v x w (.returned (.tuple #[.int .i64 r, .int .i64 f, .bool b])) w := by
  unfold NumbSays; rw [h]; exact ⟨rfl, rfl⟩

set_option maxHeartbeats 1000000 in
theorem numbers33 (op v x : Int) (hv : isV v = true) (hx : isV x = true) (w : World) :
    Calls Try.prog 33 #[.int .i64 op, .int .i64 v, .int .i64 x] w (NumbSays op v x w) := by
  have bv := isV_iff.1 hv
  have bx := isV_iff.1 hx
  clear hv hx
  by_cases h17 : op = 17
  · subst h17
    have H : Hid (numb 17 v x = (wr (v + x), 0, true)) := hid (by simp [numb])
    go_enter Try.func33, Try.ntmps33
    go_wp2_with (go_at_call 10; refine (wrap10 _ _ (by omega) (by omega)).mono ?_; rintro e w' ⟨rfl, rfl⟩)
    go_ret3
    exact NumbSays.mk H.out
  by_cases h18 : op = 18
  · subst h18
    have H : Hid (numb 18 v x = (wr (v - x), 0, true)) := hid (by simp [numb])
    go_enter Try.func33, Try.ntmps33
    go_wp2_with (go_at_call 10; refine (wrap10 _ _ (by omega) (by omega)).mono ?_; rintro e w' ⟨rfl, rfl⟩)
    go_ret3
    exact NumbSays.mk H.out
  by_cases h19 : op = 19
  · subst h19
    have H : Hid (numb 19 v x = (wr (v * x), 0, true)) := hid (by simp [numb])
    have hm := mul_wrap bv bx
    have HB := hid (mul_bd bv bx)
    go_enter Try.func33, Try.ntmps33
    go_wp2_with (go_at_call 10; refine (wrap10 _ _ (by have := HB.out; omega) (by have := HB.out; omega)).mono ?_; rintro e w' ⟨rfl, rfl⟩)
    go_ret3
    exact NumbSays.mk H.out
  by_cases h20 : op = 20
  · subst h20
    by_cases hx0 : x = 0
    · subst hx0
      have H : Hid (numb 20 v 0 = (0, 1, true)) := hid (by simp [numb])
      go_enter Try.func33, Try.ntmps33
      go_wp2
      go_ret3
      exact NumbSays.mk H.out
    · have H : Hid (numb 20 v x = (wr (v.tdiv x), 0, true)) := hid (by simp [numb, hx0])
      have hm := tdiv_wrap (x := x) bv
      have HB := hid (tdiv_bd (x := x) bv)
      have hb : (x == 0) = false := by simpa using hx0
      go_enter Try.func33, Try.ntmps33
      go_wp2_with (go_at_call 10; refine (wrap10 _ _ (by have := HB.out; omega) (by have := HB.out; omega)).mono ?_; rintro e w' ⟨rfl, rfl⟩)
      go_ret3
      exact NumbSays.mk H.out
  by_cases h21 : op = 21
  · subst h21
    by_cases hx0 : x = 0
    · subst hx0
      have H : Hid (numb 21 v 0 = (0, 1, true)) := hid (by simp [numb])
      go_enter Try.func33, Try.ntmps33
      go_wp2
      go_ret3
      exact NumbSays.mk H.out
    · have H : Hid (numb 21 v x = (wr (v.tmod x), 0, true)) := hid (by simp [numb, hx0])
      have HB := hid (tmod_bd (x := x) bv)
      have hb : (x == 0) = false := by simpa using hx0
      go_enter Try.func33, Try.ntmps33
      go_wp2_with (go_at_call 10; refine (wrap10 _ _ (by have := HB.out; omega) (by have := HB.out; omega)).mono ?_; rintro e w' ⟨rfl, rfl⟩)
      go_ret3
      exact NumbSays.mk H.out
  · have H : Hid (numb op v x = (0, 0, false)) := hid (by simp [numb, h17, h18, h19, h20, h21])
    have b17 : (op == 17) = false := by simpa using h17
    have b18 : (op == 18) = false := by simpa using h18
    have b19 : (op == 19) = false := by simpa using h19
    have b20 : (op != 20) = true := by simpa using h20
    have b21 : (op != 21) = true := by simpa using h21
    go_enter Try.func33, Try.ntmps33
    go_wp2
    go_ret3
    exact NumbSays.mk H.out

end Go.Proofs.Ytmkpoaapcghohaa
