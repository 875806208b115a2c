/- Contracts of the leaves: wrapping, range tests, comparisons, the operators of numbers. -/
import Derived.Test.YtmkpoaapcghohaaRows
import Derived.WalkKit
import Derived.WalkSpells
import Derived.WalkLawsBesides
namespace Go.Proofs.Ytmkpoaapcghohaa
open Go.RowKit

/-- a fact laid aside from the walk -/
theorem hid {p : Prop} (h : p) : Hid p := h

/-- the value that is equal to a number modulo 2^32 -/
def wr (n : Int) : Int := (n + 2147483648) % 4294967296 - 2147483648
/-- is a number a value? -/
def isV (n : Int) : Bool := decide (-2147483648 ≤ n ∧ n ≤ 2147483647)
/-- 1 of true, 0 of false -/
def tr (b : Bool) : Int := if b then 1 else 0

theorem retInt {k : IntKind} {a b : Int} (h : a = b) : Ending.returned (.int k a) = .returned (.int k b) := by rw [h]
theorem retBool {a b : Bool} (h : a = b) : Ending.returned (.bool a) = .returned (.bool b) := by rw [h]

theorem isV_iff {n : Int} : isV n = true ↔ (-2147483648 ≤ n ∧ n ≤ 2147483647) := by simp [isV]
theorem wr_bd (n : Int) : -2147483648 ≤ wr n ∧ wr n ≤ 2147483647 := by unfold wr; omega
theorem wr_isV (n : Int) : isV (wr n) = true := isV_iff.2 (wr_bd n)
theorem wr_id {n : Int} (h : isV n = true) : wr n = n := by have := isV_iff.1 h; unfold wr; omega

theorem wr_form (n : Int) (h0 : -9223372036854775808 ≤ n) (h1 : n ≤ 9223372036854775807) :
    wrap64 ((wrap64 (wrap64 (n.tmod 4294967296 + 4294967296) + 2147483648)).tmod 4294967296 + -2147483648) = wr n := by
  have hm : n.tmod 4294967296 = n % 4294967296 ∨ n.tmod 4294967296 = n % 4294967296 - 4294967296 := by
    rcases Int.le_total 0 n with h | h
    · left; exact Int.tmod_eq_emod_of_nonneg h
    · by_cases hd : (4294967296 : Int) ∣ n
      · left
        rw [Int.tmod_eq_emod]; simp [hd]
      · right
        rw [Int.tmod_eq_emod, if_neg (by omega)]; rfl
  have hb : 0 ≤ n % 4294967296 ∧ n % 4294967296 < 4294967296 := by omega
  have hk : ∃ m, m = n.tmod 4294967296 := ⟨_, rfl⟩
  obtain ⟨m, hm'⟩ := hk
  rw [← hm'] at hm ⊢
  have hmb : -4294967296 ≤ m ∧ m < 4294967296 := by omega
  have e1 : wrap64 (m + 4294967296) = m + 4294967296 := by unfold wrap64; omega
  rw [e1]
  have e2 : wrap64 (m + 4294967296 + 2147483648) = m + 4294967296 + 2147483648 := by unfold wrap64; omega
  rw [e2, Int.tmod_eq_emod_of_nonneg (by omega)]
  have e3 : ∀ x : Int, 0 ≤ x → x < 4294967296 → wrap64 (x + -2147483648) = x - 2147483648 := by intro x _ _; unfold wrap64; omega
  rw [e3 _ (by omega) (by omega)]
  unfold wr
  omega

set_option maxHeartbeats 400000 in
theorem wrap10 (n : Int) (w : World) (h0 : -9223372036854775808 ≤ n) (h1 : n ≤ 9223372036854775807) :
    Calls Try.prog 10 #[.int .i64 n] w fun e w' => e = .returned (.int .i64 (wr n)) ∧ w = w' := by
  have H := hid (wr_form n h0 h1)
  go_enter Try.func10, Try.ntmps10
  go_wp2
  go_ret
  exact ⟨retInt H.out, rfl⟩

theorem isV_ge (n : Int) (h : -2147483648 ≤ n) : isV n = decide (n ≤ 2147483647) := by simp [isV, h]
theorem isV_lt (n : Int) (h : ¬ -2147483648 ≤ n) : isV n = false := by simp [isV, h]

set_option maxHeartbeats 400000 in
theorem isV30 (n : Int) (w : World) : Calls Try.prog 30 #[.int .i64 n] w fun e w' => e = .returned (.bool (isV n)) ∧ w = w' := by
  by_cases h : -2147483648 ≤ n
  · have H := hid (isV_ge n h)
    go_enter Try.func30, Try.ntmps30
    go_wp2
    go_ret
    exact ⟨retBool H.out.symm, rfl⟩
  · have H := hid (isV_lt n h)
    go_enter Try.func30, Try.ntmps30
    go_wp2
    go_ret
    exact ⟨retBool H.out.symm, rfl⟩

set_option maxHeartbeats 400000 in
theorem isV12 (n : Int) (w : World) : Calls Try.prog 12 #[.int .i64 n] w fun e w' => e = .returned (.bool (isV n)) ∧ w = w' := by
  by_cases h : -2147483648 ≤ n
  · have H := hid (isV_ge n h)
    go_enter Try.func12, Try.ntmps12
    go_wp2
    go_ret
    exact ⟨retBool H.out.symm, rfl⟩
  · have H := hid (isV_lt n h)
    go_enter Try.func12, Try.ntmps12
    go_wp2
    go_ret
    exact ⟨retBool H.out.symm, rfl⟩

set_option maxHeartbeats 400000 in
theorem isV11 (n : Int) (w : World) : Calls Try.prog 11 #[.int .i64 n] w fun e w' => e = .returned (.bool (isV n)) ∧ w = w' := by
  go_enter Try.func11, Try.ntmps11
  go_wp2_with (go_at_call 30; refine (isV30 _ _).mono ?_; rintro e w' ⟨rfl, rfl⟩)
  go_ret
  exact ⟨rfl, rfl⟩

set_option maxHeartbeats 400000 in
theorem truth48 (b : Bool) (w : World) : Calls Try.prog 48 #[.bool b] w fun e w' => e = .returned (.int .i64 (tr b)) ∧ w = w' := by
  cases b <;> (go_enter Try.func48, Try.ntmps48; go_wp2; go_ret; exact ⟨rfl, rfl⟩)

set_option maxHeartbeats 400000 in
theorem truth36 (b : Bool) (w : World) : Calls Try.prog 36 #[.bool b] w fun e w' => e = .returned (.int .i64 (tr b)) ∧ w = w' := by
  cases b <;> (go_enter Try.func36, Try.ntmps36; go_wp2; go_ret; exact ⟨rfl, rfl⟩)

/-- -1, 0 or 1 -/
def cmpI (v x : Int) : Int := if v < x then -1 else if x < v then 1 else 0

set_option maxHeartbeats 400000 in
theorem isNaN56 (v : Int) (w : World) : Calls Try.prog 56 #[.int .i64 v] w fun e w' => e = .returned (.bool false) ∧ w = w' := by
  go_enter Try.func56, Try.ntmps56
  go_wp2
  go_ret
  exact ⟨by simp, rfl⟩

set_option maxHeartbeats 400000 in
theorem cmp47 (v x : Int) (w : World) : Calls Try.prog 47 #[.int .i64 v, .int .i64 x] w fun e w' => e = .returned (.int .i64 (cmpI v x)) ∧ w = w' := by
  rcases Int.lt_trichotomy v x with h | h | h
  · have H : Hid (cmpI v x = -1) := by simp [Hid, cmpI, h]
    go_enter Try.func47, Try.ntmps47
    go_wp2_with (go_at_call 56; refine (isNaN56 _ _).mono ?_; rintro e w' ⟨rfl, rfl⟩)
    go_ret
    exact ⟨retInt H.out.symm, rfl⟩
  · subst h
    have H : Hid (cmpI v v = 0) := by simp [Hid, cmpI]
    go_enter Try.func47, Try.ntmps47
    go_wp2_with (go_at_call 56; refine (isNaN56 _ _).mono ?_; rintro e w' ⟨rfl, rfl⟩)
    go_ret
    exact ⟨retInt H.out.symm, rfl⟩
  · have h' : ¬ v < x := by omega
    have H : Hid (cmpI v x = 1) := by simp [Hid, cmpI, h, h']
    go_enter Try.func47, Try.ntmps47
    go_wp2_with (go_at_call 56; refine (isNaN56 _ _).mono ?_; rintro e w' ⟨rfl, rfl⟩)
    go_ret
    exact ⟨retInt H.out.symm, rfl⟩

end Go.Proofs.Ytmkpoaapcghohaa
