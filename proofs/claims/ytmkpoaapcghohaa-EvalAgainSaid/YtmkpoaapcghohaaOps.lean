/- Contracts of the reference: bit, logic, Unary. -/
import Derived.Test.YtmkpoaapcghohaaUnary
namespace Go.Proofs.Ytmkpoaapcghohaa
open Go.RowKit

set_option maxHeartbeats 1000000 in
theorem bit34 (v : Int) (w : World) : Calls Try.prog 34 #[.int .i64 v] w fun e w' => e = .returned (.bool (bit v)) ∧ w = w' := by
  by_cases h0 : v = 0
  · subst h0
    go_enter Try.func34, Try.ntmps34
    go_wp2
    go_ret
    exact ⟨rfl, rfl⟩
  by_cases h1 : v = 1
  · subst h1
    go_enter Try.func34, Try.ntmps34
    go_wp2
    go_ret
    exact ⟨rfl, rfl⟩
  · have H := hid (bit_no h0 h1)
    have b0 : (v == 0) = false := by simpa using h0
    have b1 : (v == 1) = false := by simpa using h1
    clear h0 h1
    go_enter Try.func34, Try.ntmps34
    go_wp2
    go_ret
    exact ⟨retBool H.out.symm, rfl⟩

theorem bit2_no {v x : Int} (h : bit2 v x = false) : bit v = false ∨ (bit v = true ∧ bit x = false) := by
  unfold bit2 at h; cases h1 : bit v
  · exact .inl rfl
  · rw [h1] at h; exact .inr ⟨rfl, by simpa using h⟩

set_option maxHeartbeats 2000000 in
theorem logic35 (op v x : Int) (h0 : 8 ≤ op) (h1 : op ≤ 10) (h : bit2 v x = true) (w : World) :
    Calls Try.prog 35 #[.int .i64 op, .int .i64 v, .int .i64 x] w fun e w' => e = .returned (.int .i64 (logicOp op v x)) ∧ w = w' := by
  have hb := h
  rw [bit2, Bool.and_eq_true, bit_iff, bit_iff] at hb
  obtain ⟨hv, hx⟩ := hb
  have hop : op = 8 ∨ op = 9 ∨ op = 10 := by omega
  clear h h0 h1
  rcases hop with rfl | rfl | rfl <;> rcases hv with rfl | rfl <;> rcases hx with rfl | rfl
  all_goals
    have t0 : bit 0 = true := by decide
    have t1 : bit 1 = true := by decide
    go_enter Try.func35, Try.ntmps35
    go_wp2_with (go_at_call 34; refine (bit34 _ _).mono ?_; rintro e w' ⟨rfl, rfl⟩)
    go_ret
    exact ⟨rfl, rfl⟩

set_option maxHeartbeats 2000000 in
theorem logic35no (op v x : Int) (h : bit2 v x = false) (w : World) :
    Calls Try.prog 35 #[.int .i64 op, .int .i64 v, .int .i64 x] w fun e w' => e = .returned (.int .i64 0) ∧ w = w' := by
  rcases bit2_no h with h | ⟨h, h'⟩
  all_goals
    go_enter Try.func35, Try.ntmps35
    go_wp2_with (go_at_call 34; refine (bit34 _ _).mono ?_; rintro e w' ⟨rfl, rfl⟩)
    go_ret
    exact ⟨rfl, rfl⟩

/-- result, is there one -/
def rUn (op v : Int) : Int × Bool := if !isV v then (0, false) else if op = 6 then (1 - v, bit v) else if op = 7 then (wr (-v), true) else (0, false)
theorem un_pair (op v : Int) : (∃ r, un op v = (r, 0) ∧ rUn op v = (r, true)) ∨ (∃ r, un op v = (0, 2) ∧ rUn op v = (r, false)) := by
  unfold un rUn
  have hb : bit v = true → isV v = true := fun h => by
    rcases bit_iff.1 h with rfl | rfl <;> decide
  by_cases h6 : op = 6
  · subst h6
    cases h : bit v
    · cases hv : isV v
      · exact .inr ⟨0, by simp, by simp⟩
      · exact .inr ⟨1 - v, by simp, by simp⟩
    · exact .inl ⟨1 - v, by simp, by simp [hb h]⟩
  by_cases h7 : op = 7
  · subst h7
    cases hv : isV v
    · exact .inr ⟨0, by simp, by simp⟩
    · exact .inl ⟨wr (-v), by simp, by simp⟩
  · cases hv : isV v
    · exact .inr ⟨0, by simp [h6, h7], by simp⟩
    · exact .inr ⟨0, by simp [h6, h7], by simp [h6, h7]⟩

theorem ret2of {op v : Int} {w : World} {r : Int} {b : Bool} (h : rUn op v = (r, b)) :
    (fun (e : Ending) (w' : World) => e = .returned (.tuple #[.int .i64 (rUn op v).1, .bool (rUn op v).2]) ∧ w = w') (.returned (.tuple #[.int .i64 r, .bool b])) w := by
  rw [h]; exact ⟨rfl, rfl⟩

set_option maxHeartbeats 2000000 in
theorem rUn17 (op v : Int) (w : World) : Calls Try.prog 17 #[.int .i64 op, .int .i64 v] w fun e w' => e = .returned (.tuple #[.int .i64 (rUn op v).1, .bool (rUn op v).2]) ∧ w = w' := by
  cases hv : isV v
  · have H : Hid (rUn op v = (0, false)) := hid (by simp [rUn, hv])
    go_enter Try.func17, Try.ntmps17
    go_wp2_with (go_at_call 12; refine (isV12 _ _).mono ?_; rintro e w' ⟨rfl, rfl⟩)
    go_ret2
    exact ret2of H.out
  obtain ⟨b0, b1⟩ := isV_iff.1 hv
  by_cases h6 : op = 6
  · subst h6
    have H : Hid (rUn 6 v = (1 - v, bit v)) := hid (by simp [rUn, hv])
    go_enter Try.func17, Try.ntmps17
    go_wp2_with (first | (go_at_call 12; refine (isV12 _ _).mono ?_; rintro e w' ⟨rfl, rfl⟩) | (go_at_call 34; refine (bit34 _ _).mono ?_; rintro e w' ⟨rfl, rfl⟩))
    go_ret2
    exact ret2of H.out
  by_cases h7 : op = 7
  · subst h7
    have H : Hid (rUn 7 v = (wr (-v), true)) := hid (by simp [rUn, hv])
    go_enter Try.func17, Try.ntmps17
    go_wp2_with (first | (go_at_call 12; refine (isV12 _ _).mono ?_; rintro e w' ⟨rfl, rfl⟩) | (go_at_call 15; refine (wrap15 _ _).mono ?_; rintro e w' ⟨rfl, rfl⟩))
    go_ret2
    exact ret2of H.out
  · have H : Hid (rUn op v = (0, false)) := hid (by simp [rUn, hv, h6, h7])
    have c6 : (op == 6) = false := by simpa using h6
    have c7 : (op == 7) = false := by simpa using h7
    go_enter Try.func17, Try.ntmps17
    go_wp2_with (go_at_call 12; refine (isV12 _ _).mono ?_; rintro e w' ⟨rfl, rfl⟩)
    go_ret2
    exact ret2of H.out
end Go.Proofs.Ytmkpoaapcghohaa
