/- Contracts: eval.Binary, eval.Unary. -/
import Derived.Test.YtmkpoaapcghohaaLeafC
namespace Go.Proofs.Ytmkpoaapcghohaa
open Go.RowKit

theorem truth31pair (v x : Int) (w : World) : Calls Try.prog 31 #[.slice (some ⟨w.heap.size, 0, none⟩) 2 2] (w.alloc (.cells #[.int .i64 v, .int .i64 x] 3)) fun e w' => e = .returned (.bool (bit2 v x)) ∧ w.alloc (.cells #[.int .i64 v, .int .i64 x] 3) = w' :=
  truth31two v x _ _ (by simp) (by simp)
theorem truth31lone (v : Int) (w : World) : Calls Try.prog 31 #[.slice (some ⟨w.heap.size, 0, none⟩) 1 1] (w.alloc (.cells #[.int .i64 v] 3)) fun e w' => e = .returned (.bool (bit v)) ∧ w.alloc (.cells #[.int .i64 v] 3) = w' :=
  truth31one v _ _ (by simp)

theorem idx0 (a b c : Value) (w : World) : (Instr.index 57 (.agg #[a, b, c]) (.int .i64 0)).run Try.prog w = .ok a w := by kernel_rfl
theorem idx1 (a b c : Value) (w : World) : (Instr.index 57 (.agg #[a, b, c]) (.int .i64 1)).run Try.prog w = .ok b w := by kernel_rfl
theorem idx2 (a b c : Value) (w : World) : (Instr.index 57 (.agg #[a, b, c]) (.int .i64 2)).run Try.prog w = .ok c w := by kernel_rfl
theorem bin_log {op v x : Int} (h0 : 8 ≤ op) (h1 : op ≤ 10) (h : bit2 v x = true) : bin op v x = (logicOp op v x, 0, 0) := by
  unfold bin; rw [if_pos ⟨h0, h1⟩, if_pos h]
theorem bin_nolog {op v x : Int} (h0 : 8 ≤ op) (h1 : op ≤ 10) (h : bit2 v x = false) : bin op v x = (0, 0, 2) := by
  unfold bin; rw [if_pos ⟨h0, h1⟩, h]; rfl

set_option maxHeartbeats 4000000 in
theorem bin13log (op v x : Int) (h0 : 8 ≤ op) (h1 : op ≤ 10) (h : bit2 v x = true) (w : World) :
    Calls Try.prog 13 #[.int .i64 op, .int .i64 v, .int .i64 x] w (BinSays op v x w) := by
  have hb := h
  rw [bit2, Bool.and_eq_true, bit_iff, bit_iff] at hb
  obtain ⟨hv, hx⟩ := hb
  have hop : op = 8 ∨ op = 9 ∨ op = 10 := by omega
  have H := bin_log h0 h1 h
  clear h h0 h1
  rcases hop with rfl | rfl | rfl <;> rcases hv with rfl | rfl <;> rcases hx with rfl | rfl
  all_goals
    simp [logicOp] at H
    replace H := hid H
    have i0 := idx0
    have i1 := idx1
    have i2 := idx2
    go_enter Try.func13, Try.ntmps13
    go_wp2_with (go_at_call 31; refine (truth31pair _ _ _).mono ?_; rintro e w' ⟨rfl, rfl⟩)
    go_ret3
    exact BinSays.mk H.out ((Below.refl _ _).alloc (Nat.le_refl _) _)

set_option maxHeartbeats 4000000 in
theorem bin13nolog (op v x : Int) (h0 : 8 ≤ op) (h1 : op ≤ 10) (h : bit2 v x = false) (w : World) :
    Calls Try.prog 13 #[.int .i64 op, .int .i64 v, .int .i64 x] w (BinSays op v x w) := by
  have H := hid (bin_nolog h0 h1 h)
  go_enter Try.func13, Try.ntmps13
  go_wp2_with (go_at_call 31; refine (truth31pair _ _ _).mono ?_; rintro e w' ⟨rfl, rfl⟩)
  go_ret3
  exact BinSays.mk H.out ((Below.refl _ _).alloc (Nat.le_refl _) _)

theorem bin_noval {op v x : Int} (h : op < 8 ∨ 10 < op) (hv : (!isV v || !isV x) = true) : bin op v x = (0, 0, 2) := by
  unfold bin; rw [if_neg (by omega), if_pos hv]
theorem bin_cmp {op v x : Int} (h0 : 11 ≤ op) (h1 : op ≤ 16) (hv : isV v = true) (hx : isV x = true) : bin op v x = (cmpOp op v x, 0, 0) := by
  unfold bin; rw [if_neg (by omega), hv, hx, if_neg (by decide), if_pos ⟨h0, h1⟩]
theorem bin_num {op v x : Int} (h : op < 8 ∨ 16 < op) (hv : isV v = true) (hx : isV x = true) : bin op v x = if (numb op v x).2.2 then ((numb op v x).1, (numb op v x).2.1, 0) else (0, 0, 2) := by
  unfold bin; rw [if_neg (by omega), hv, hx, if_neg (by decide), if_neg (by omega)]

set_option maxHeartbeats 4000000 in
theorem bin13noval (op v x : Int) (h : op < 8 ∨ 10 < op) (hv : (!isV v || !isV x) = true) (w : World) :
    Calls Try.prog 13 #[.int .i64 op, .int .i64 v, .int .i64 x] w (BinSays op v x w) := by
  have H := hid (bin_noval h hv)
  have hv' : isV v = false ∨ (isV v = true ∧ isV x = false) := by cases h1 : isV v <;> cases h2 : isV x <;> simp_all
  clear hv
  rcases hv' with hv | ⟨hv, hx⟩ <;> rcases h with h | h
  all_goals
    go_enter Try.func13, Try.ntmps13
    go_wp2_with (go_at_call 11; refine (isV11 _ _).mono ?_; rintro e w' ⟨rfl, rfl⟩)
    go_ret3
    exact BinSays.mk H.out (Below.refl _ _)

set_option maxHeartbeats 4000000 in
theorem bin13cmp (op v x : Int) (h0 : 11 ≤ op) (h1 : op ≤ 16) (hv : isV v = true) (hx : isV x = true) (w : World) :
    Calls Try.prog 13 #[.int .i64 op, .int .i64 v, .int .i64 x] w (BinSays op v x w) := by
  have H := hid (bin_cmp h0 h1 hv hx)
  go_enter Try.func13, Try.ntmps13
  go_wp2_with (first | (go_at_call 11; refine (isV11 _ _).mono ?_; rintro e w' ⟨rfl, rfl⟩) | (go_at_call 32; refine (compared32 _ _ _ (by omega) (by omega) _).mono ?_; rintro e w' ⟨rfl, rfl⟩))
  go_ret3
  exact BinSays.mk H.out (Below.refl _ _)

set_option maxHeartbeats 4000000 in
theorem bin13num (op v x : Int) (h : op < 8 ∨ 16 < op) (hv : isV v = true) (hx : isV x = true) (w : World) :
    Calls Try.prog 13 #[.int .i64 op, .int .i64 v, .int .i64 x] w (BinSays op v x w) := by
  have H := bin_num h hv hx
  have HN := fun W : World => hid (numbers33 op v x hv hx W)
  unfold NumbSays at HN
  generalize numb op v x = t at H HN
  obtain ⟨r, f, b⟩ := t
  cases b
  · replace H : bin op v x = (0, 0, 2) := H
    replace H := hid H
    rcases h with h | h
    all_goals
      go_enter Try.func13, Try.ntmps13
      go_wp2_with (first | (go_at_call 11; refine (isV11 _ _).mono ?_; rintro e w' ⟨rfl, rfl⟩) | (go_at_call 33; refine (HN _).out.mono ?_; rintro e w' ⟨rfl, rfl⟩))
      go_ret3
      exact BinSays.mk H.out (Below.refl _ _)
  · replace H : bin op v x = (r, f, 0) := H
    replace H := hid H
    rcases h with h | h
    all_goals
      go_enter Try.func13, Try.ntmps13
      go_wp2_with (first | (go_at_call 11; refine (isV11 _ _).mono ?_; rintro e w' ⟨rfl, rfl⟩) | (go_at_call 33; refine (HN _).out.mono ?_; rintro e w' ⟨rfl, rfl⟩))
      go_ret3
      exact BinSays.mk H.out (Below.refl _ _)

theorem bin13 (op v x : Int) (w : World) : Calls Try.prog 13 #[.int .i64 op, .int .i64 v, .int .i64 x] w (BinSays op v x w) := by
  by_cases h : 8 ≤ op ∧ op ≤ 10
  · cases hb : bit2 v x
    · exact bin13nolog op v x h.1 h.2 hb w
    · exact bin13log op v x h.1 h.2 hb w
  · by_cases hv : (!isV v || !isV x) = true
    · exact bin13noval op v x (by omega) hv w
    · have h1 : isV v = true := by cases e : isV v <;> simp_all
      have h2 : isV x = true := by cases e : isV x <;> simp_all
      by_cases hc : 11 ≤ op ∧ op ≤ 16
      · exact bin13cmp op v x hc.1 hc.2 h1 h2 w
      · exact bin13num op v x (by omega) h1 h2 w

end Go.Proofs.Ytmkpoaapcghohaa
