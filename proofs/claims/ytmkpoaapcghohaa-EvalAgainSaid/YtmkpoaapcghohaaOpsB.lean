/- The reference's Binary; the walk of the law EvalOperators. -/
import Derived.Test.YtmkpoaapcghohaaOps
namespace Go.Proofs.Ytmkpoaapcghohaa
open Go.RowKit

/-- result, fault, is there one -/
def rBin (op v x : Int) : Int × Int × Bool :=
  if !isV v || !isV x then (0, 0, false)
  else if 8 ≤ op ∧ op ≤ 10 then (if bit2 v x then (logicOp op v x, 0, true) else (0, 0, false))
  else if 11 ≤ op ∧ op ≤ 16 then (cmpOp op v x, 0, true)
  else numb op v x

theorem bit_isV {v : Int} (h : bit v = true) : isV v = true := by rcases bit_iff.1 h with rfl | rfl <;> decide
theorem numb_no {op v x : Int} (h : (numb op v x).2.2 = false) : numb op v x = (0, 0, false) := by
  unfold numb at h ⊢
  repeat' split
  all_goals simp_all
theorem bin_pair (op v x : Int) : (∃ r f, bin op v x = (r, f, 0) ∧ rBin op v x = (r, f, true)) ∨ (bin op v x = (0, 0, 2) ∧ rBin op v x = (0, 0, false)) := by
  by_cases hl : 8 ≤ op ∧ op ≤ 10
  · cases hb : bit2 v x
    · refine .inr ⟨bin_nolog hl.1 hl.2 hb, ?_⟩
      unfold rBin
      split
      · rfl
      · rw [hb]; rfl
    · refine .inl ⟨logicOp op v x, 0, bin_log hl.1 hl.2 hb, ?_⟩
      have hb' := hb
      unfold bit2 at hb'
      rw [Bool.and_eq_true] at hb'
      unfold rBin
      rw [bit_isV hb'.1, bit_isV hb'.2, if_neg (by decide), if_pos hl, if_pos hb]
  · by_cases hv : (!isV v || !isV x) = true
    · exact .inr ⟨bin_noval (by omega) hv, by unfold rBin; rw [if_pos hv]⟩
    · have h1 : isV v = true := by cases e : isV v <;> simp_all
      have h2 : isV x = true := by cases e : isV x <;> simp_all
      by_cases hc : 11 ≤ op ∧ op ≤ 16
      · refine .inl ⟨cmpOp op v x, 0, bin_cmp hc.1 hc.2 h1 h2, ?_⟩
        unfold rBin; rw [if_neg hv, if_neg hl, if_pos hc]
      · have e : rBin op v x = numb op v x := by unfold rBin; rw [if_neg hv, if_neg hl, if_neg hc]
        rw [e, bin_num (by omega) h1 h2]
        cases hn : (numb op v x).2.2
        · exact .inr ⟨rfl, numb_no hn⟩
        · refine .inl ⟨(numb op v x).1, (numb op v x).2.1, by rw [if_pos rfl], ?_⟩
          rw [← hn]

def RSays (op v x : Int) (w : World) (e : Ending) (w' : World) : Prop :=
  e = .returned (.tuple #[.int .i64 (rBin op v x).1, .int .i64 (rBin op v x).2.1, .bool (rBin op v x).2.2]) ∧ w = w'
theorem RSays.mk {op v x r f : Int} {b : Bool} {w : World} (h : rBin op v x = (r, f, b)) : RSays op v x w (.returned (.tuple #[.int .i64 r, .int .i64 f, .bool b])) w := by
  unfold RSays; rw [h]; exact ⟨rfl, rfl⟩
theorem rBin_noval {op v x : Int} (hv : (!isV v || !isV x) = true) : rBin op v x = (0, 0, false) := by unfold rBin; rw [if_pos hv]
theorem rBin_log {op v x : Int} (h0 : 8 ≤ op) (h1 : op ≤ 10) (hv : isV v = true) (hx : isV x = true) (h : bit2 v x = true) : rBin op v x = (logicOp op v x, 0, true) := by
  unfold rBin; rw [hv, hx, if_neg (by decide), if_pos ⟨h0, h1⟩, if_pos h]
theorem rBin_nolog {op v x : Int} (h0 : 8 ≤ op) (h1 : op ≤ 10) (hv : isV v = true) (hx : isV x = true) (h : bit2 v x = false) : rBin op v x = (0, 0, false) := by
  unfold rBin; rw [hv, hx, if_neg (by decide), if_pos ⟨h0, h1⟩, h]; rfl
theorem rBin_cmp {op v x : Int} (h0 : 11 ≤ op) (h1 : op ≤ 16) (hv : isV v = true) (hx : isV x = true) : rBin op v x = (cmpOp op v x, 0, true) := by
  unfold rBin; rw [hv, hx, if_neg (by decide), if_neg (by omega), if_pos ⟨h0, h1⟩]
theorem rBin_num {op v x : Int} (h : op < 8 ∨ 16 < op) (hv : isV v = true) (hx : isV x = true) : rBin op v x = numb op v x := by
  unfold rBin; rw [hv, hx, if_neg (by decide), if_neg (by omega), if_neg (by omega)]

set_option maxHeartbeats 2000000 in
theorem rbin18no (op v x : Int) (hv : (!isV v || !isV x) = true) (w : World) : Calls Try.prog 18 #[.int .i64 op, .int .i64 v, .int .i64 x] w (RSays op v x w) := by
  have H := hid (rBin_noval (op := op) hv)
  have hv' : isV v = false ∨ (isV v = true ∧ isV x = false) := by cases h1 : isV v <;> cases h2 : isV x <;> simp_all
  clear hv
  rcases hv' with hv | ⟨hv, hx⟩
  all_goals
    go_enter Try.func18, Try.ntmps18
    go_wp2_with (go_at_call 12; refine (isV12 _ _).mono ?_; rintro e w' ⟨rfl, rfl⟩)
    go_ret3
    exact RSays.mk H.out

set_option maxHeartbeats 2000000 in
theorem rbin18L8 (v x : Int) (hv : isV v = true) (hx : isV x = true) (h : bit2 v x = true) (w : World) : Calls Try.prog 18 #[.int .i64 8, .int .i64 v, .int .i64 x] w (RSays 8 v x w) := by
  have H := hid (rBin_log (op := 8) (by omega) (by omega) hv hx h)
  have LOG := fun W => hid (logic35 8 v x (by omega) (by omega) h W)
  obtain ⟨t1, t2⟩ : bit v = true ∧ bit x = true := by unfold bit2 at h; rwa [Bool.and_eq_true] at h
  clear h
  go_enter Try.func18, Try.ntmps18
  go_wp2_with (first | (go_at_call 12; refine (isV12 _ _).mono ?_; rintro e w' ⟨rfl, rfl⟩) | (go_at_call 34; refine (bit34 _ _).mono ?_; rintro e w' ⟨rfl, rfl⟩) | (go_at_call 36; refine (truth36 _ _).mono ?_; rintro e w' ⟨rfl, rfl⟩) | (go_at_call 15; refine (wrap15 _ _).mono ?_; rintro e w' ⟨rfl, rfl⟩) | (go_at_call 35; refine (LOG _).out.mono ?_; rintro e w' ⟨rfl, rfl⟩))
  go_ret3
  exact RSays.mk H.out

set_option maxHeartbeats 2000000 in
theorem rbin18N8 (v x : Int) (hv : isV v = true) (hx : isV x = true) (h : bit2 v x = false) (w : World) : Calls Try.prog 18 #[.int .i64 8, .int .i64 v, .int .i64 x] w (RSays 8 v x w) := by
  have H := hid (rBin_nolog (op := 8) (by omega) (by omega) hv hx h)
  have LOG := fun W => hid (logic35no 8 v x h W)
  rcases bit2_no h with t1 | ⟨t1, t2⟩ <;> clear h
  all_goals
    go_enter Try.func18, Try.ntmps18
    go_wp2_with (first | (go_at_call 12; refine (isV12 _ _).mono ?_; rintro e w' ⟨rfl, rfl⟩) | (go_at_call 34; refine (bit34 _ _).mono ?_; rintro e w' ⟨rfl, rfl⟩) | (go_at_call 36; refine (truth36 _ _).mono ?_; rintro e w' ⟨rfl, rfl⟩) | (go_at_call 15; refine (wrap15 _ _).mono ?_; rintro e w' ⟨rfl, rfl⟩) | (go_at_call 35; refine (LOG _).out.mono ?_; rintro e w' ⟨rfl, rfl⟩))
    go_ret3
    exact RSays.mk H.out

set_option maxHeartbeats 2000000 in
theorem rbin18L9 (v x : Int) (hv : isV v = true) (hx : isV x = true) (h : bit2 v x = true) (w : World) : Calls Try.prog 18 #[.int .i64 9, .int .i64 v, .int .i64 x] w (RSays 9 v x w) := by
  have H := hid (rBin_log (op := 9) (by omega) (by omega) hv hx h)
  have LOG := fun W => hid (logic35 9 v x (by omega) (by omega) h W)
  obtain ⟨t1, t2⟩ : bit v = true ∧ bit x = true := by unfold bit2 at h; rwa [Bool.and_eq_true] at h
  clear h
  go_enter Try.func18, Try.ntmps18
  go_wp2_with (first | (go_at_call 12; refine (isV12 _ _).mono ?_; rintro e w' ⟨rfl, rfl⟩) | (go_at_call 34; refine (bit34 _ _).mono ?_; rintro e w' ⟨rfl, rfl⟩) | (go_at_call 36; refine (truth36 _ _).mono ?_; rintro e w' ⟨rfl, rfl⟩) | (go_at_call 15; refine (wrap15 _ _).mono ?_; rintro e w' ⟨rfl, rfl⟩) | (go_at_call 35; refine (LOG _).out.mono ?_; rintro e w' ⟨rfl, rfl⟩))
  go_ret3
  exact RSays.mk H.out

set_option maxHeartbeats 2000000 in
theorem rbin18N9 (v x : Int) (hv : isV v = true) (hx : isV x = true) (h : bit2 v x = false) (w : World) : Calls Try.prog 18 #[.int .i64 9, .int .i64 v, .int .i64 x] w (RSays 9 v x w) := by
  have H := hid (rBin_nolog (op := 9) (by omega) (by omega) hv hx h)
  have LOG := fun W => hid (logic35no 9 v x h W)
  rcases bit2_no h with t1 | ⟨t1, t2⟩ <;> clear h
  all_goals
    go_enter Try.func18, Try.ntmps18
    go_wp2_with (first | (go_at_call 12; refine (isV12 _ _).mono ?_; rintro e w' ⟨rfl, rfl⟩) | (go_at_call 34; refine (bit34 _ _).mono ?_; rintro e w' ⟨rfl, rfl⟩) | (go_at_call 36; refine (truth36 _ _).mono ?_; rintro e w' ⟨rfl, rfl⟩) | (go_at_call 15; refine (wrap15 _ _).mono ?_; rintro e w' ⟨rfl, rfl⟩) | (go_at_call 35; refine (LOG _).out.mono ?_; rintro e w' ⟨rfl, rfl⟩))
    go_ret3
    exact RSays.mk H.out

set_option maxHeartbeats 2000000 in
theorem rbin18L10 (v x : Int) (hv : isV v = true) (hx : isV x = true) (h : bit2 v x = true) (w : World) : Calls Try.prog 18 #[.int .i64 10, .int .i64 v, .int .i64 x] w (RSays 10 v x w) := by
  have H := hid (rBin_log (op := 10) (by omega) (by omega) hv hx h)
  have LOG := fun W => hid (logic35 10 v x (by omega) (by omega) h W)
  obtain ⟨t1, t2⟩ : bit v = true ∧ bit x = true := by unfold bit2 at h; rwa [Bool.and_eq_true] at h
  clear h
  go_enter Try.func18, Try.ntmps18
  go_wp2_with (first | (go_at_call 12; refine (isV12 _ _).mono ?_; rintro e w' ⟨rfl, rfl⟩) | (go_at_call 34; refine (bit34 _ _).mono ?_; rintro e w' ⟨rfl, rfl⟩) | (go_at_call 36; refine (truth36 _ _).mono ?_; rintro e w' ⟨rfl, rfl⟩) | (go_at_call 15; refine (wrap15 _ _).mono ?_; rintro e w' ⟨rfl, rfl⟩) | (go_at_call 35; refine (LOG _).out.mono ?_; rintro e w' ⟨rfl, rfl⟩))
  go_ret3
  exact RSays.mk H.out

set_option maxHeartbeats 2000000 in
theorem rbin18N10 (v x : Int) (hv : isV v = true) (hx : isV x = true) (h : bit2 v x = false) (w : World) : Calls Try.prog 18 #[.int .i64 10, .int .i64 v, .int .i64 x] w (RSays 10 v x w) := by
  have H := hid (rBin_nolog (op := 10) (by omega) (by omega) hv hx h)
  have LOG := fun W => hid (logic35no 10 v x h W)
  rcases bit2_no h with t1 | ⟨t1, t2⟩ <;> clear h
  all_goals
    go_enter Try.func18, Try.ntmps18
    go_wp2_with (first | (go_at_call 12; refine (isV12 _ _).mono ?_; rintro e w' ⟨rfl, rfl⟩) | (go_at_call 34; refine (bit34 _ _).mono ?_; rintro e w' ⟨rfl, rfl⟩) | (go_at_call 36; refine (truth36 _ _).mono ?_; rintro e w' ⟨rfl, rfl⟩) | (go_at_call 15; refine (wrap15 _ _).mono ?_; rintro e w' ⟨rfl, rfl⟩) | (go_at_call 35; refine (LOG _).out.mono ?_; rintro e w' ⟨rfl, rfl⟩))
    go_ret3
    exact RSays.mk H.out

set_option maxHeartbeats 2000000 in
theorem rbin18C11 (v x : Int) (hv : isV v = true) (hx : isV x = true) (w : World) : Calls Try.prog 18 #[.int .i64 11, .int .i64 v, .int .i64 x] w (RSays 11 v x w) := by
  have H := hid (show rBin 11 v x = (tr (v == x), 0, true) from rBin_cmp (by omega) (by omega) hv hx)
  go_enter Try.func18, Try.ntmps18
  go_wp2_with (first | (go_at_call 12; refine (isV12 _ _).mono ?_; rintro e w' ⟨rfl, rfl⟩) | (go_at_call 34; refine (bit34 _ _).mono ?_; rintro e w' ⟨rfl, rfl⟩) | (go_at_call 36; refine (truth36 _ _).mono ?_; rintro e w' ⟨rfl, rfl⟩) | (go_at_call 15; refine (wrap15 _ _).mono ?_; rintro e w' ⟨rfl, rfl⟩))
  go_ret3
  exact RSays.mk H.out

set_option maxHeartbeats 2000000 in
theorem rbin18C12 (v x : Int) (hv : isV v = true) (hx : isV x = true) (w : World) : Calls Try.prog 18 #[.int .i64 12, .int .i64 v, .int .i64 x] w (RSays 12 v x w) := by
  have H := hid (show rBin 12 v x = (tr (v != x), 0, true) from rBin_cmp (by omega) (by omega) hv hx)
  go_enter Try.func18, Try.ntmps18
  go_wp2_with (first | (go_at_call 12; refine (isV12 _ _).mono ?_; rintro e w' ⟨rfl, rfl⟩) | (go_at_call 34; refine (bit34 _ _).mono ?_; rintro e w' ⟨rfl, rfl⟩) | (go_at_call 36; refine (truth36 _ _).mono ?_; rintro e w' ⟨rfl, rfl⟩) | (go_at_call 15; refine (wrap15 _ _).mono ?_; rintro e w' ⟨rfl, rfl⟩))
  go_ret3
  exact RSays.mk H.out

set_option maxHeartbeats 2000000 in
theorem rbin18C13 (v x : Int) (hv : isV v = true) (hx : isV x = true) (w : World) : Calls Try.prog 18 #[.int .i64 13, .int .i64 v, .int .i64 x] w (RSays 13 v x w) := by
  have H := hid (show rBin 13 v x = (tr (decide (v < x)), 0, true) from rBin_cmp (by omega) (by omega) hv hx)
  go_enter Try.func18, Try.ntmps18
  go_wp2_with (first | (go_at_call 12; refine (isV12 _ _).mono ?_; rintro e w' ⟨rfl, rfl⟩) | (go_at_call 34; refine (bit34 _ _).mono ?_; rintro e w' ⟨rfl, rfl⟩) | (go_at_call 36; refine (truth36 _ _).mono ?_; rintro e w' ⟨rfl, rfl⟩) | (go_at_call 15; refine (wrap15 _ _).mono ?_; rintro e w' ⟨rfl, rfl⟩))
  go_ret3
  exact RSays.mk H.out

set_option maxHeartbeats 2000000 in
theorem rbin18C14 (v x : Int) (hv : isV v = true) (hx : isV x = true) (w : World) : Calls Try.prog 18 #[.int .i64 14, .int .i64 v, .int .i64 x] w (RSays 14 v x w) := by
  have H := hid (show rBin 14 v x = (tr (decide (v ≤ x)), 0, true) from rBin_cmp (by omega) (by omega) hv hx)
  go_enter Try.func18, Try.ntmps18
  go_wp2_with (first | (go_at_call 12; refine (isV12 _ _).mono ?_; rintro e w' ⟨rfl, rfl⟩) | (go_at_call 34; refine (bit34 _ _).mono ?_; rintro e w' ⟨rfl, rfl⟩) | (go_at_call 36; refine (truth36 _ _).mono ?_; rintro e w' ⟨rfl, rfl⟩) | (go_at_call 15; refine (wrap15 _ _).mono ?_; rintro e w' ⟨rfl, rfl⟩))
  go_ret3
  exact RSays.mk H.out

set_option maxHeartbeats 2000000 in
theorem rbin18C15 (v x : Int) (hv : isV v = true) (hx : isV x = true) (w : World) : Calls Try.prog 18 #[.int .i64 15, .int .i64 v, .int .i64 x] w (RSays 15 v x w) := by
  have H := hid (show rBin 15 v x = (tr (decide (x < v)), 0, true) from rBin_cmp (by omega) (by omega) hv hx)
  go_enter Try.func18, Try.ntmps18
  go_wp2_with (first | (go_at_call 12; refine (isV12 _ _).mono ?_; rintro e w' ⟨rfl, rfl⟩) | (go_at_call 34; refine (bit34 _ _).mono ?_; rintro e w' ⟨rfl, rfl⟩) | (go_at_call 36; refine (truth36 _ _).mono ?_; rintro e w' ⟨rfl, rfl⟩) | (go_at_call 15; refine (wrap15 _ _).mono ?_; rintro e w' ⟨rfl, rfl⟩))
  go_ret3
  exact RSays.mk H.out

set_option maxHeartbeats 2000000 in
theorem rbin18C16 (v x : Int) (hv : isV v = true) (hx : isV x = true) (w : World) : Calls Try.prog 18 #[.int .i64 16, .int .i64 v, .int .i64 x] w (RSays 16 v x w) := by
  have H := hid (show rBin 16 v x = (tr (decide (x ≤ v)), 0, true) from rBin_cmp (by omega) (by omega) hv hx)
  go_enter Try.func18, Try.ntmps18
  go_wp2_with (first | (go_at_call 12; refine (isV12 _ _).mono ?_; rintro e w' ⟨rfl, rfl⟩) | (go_at_call 34; refine (bit34 _ _).mono ?_; rintro e w' ⟨rfl, rfl⟩) | (go_at_call 36; refine (truth36 _ _).mono ?_; rintro e w' ⟨rfl, rfl⟩) | (go_at_call 15; refine (wrap15 _ _).mono ?_; rintro e w' ⟨rfl, rfl⟩))
  go_ret3
  exact RSays.mk H.out

set_option maxHeartbeats 2000000 in
theorem rbin18A17 (v x : Int) (hv : isV v = true) (hx : isV x = true) (w : World) : Calls Try.prog 18 #[.int .i64 17, .int .i64 v, .int .i64 x] w (RSays 17 v x w) := by
  have H := hid (show rBin 17 v x = (wr (v + x), 0, true) from rBin_num (by omega) hv hx)
  obtain ⟨a0, a1⟩ := isV_iff.1 hv
  obtain ⟨b0, b1⟩ := isV_iff.1 hx
  go_enter Try.func18, Try.ntmps18
  go_wp2_with (first | (go_at_call 12; refine (isV12 _ _).mono ?_; rintro e w' ⟨rfl, rfl⟩) | (go_at_call 34; refine (bit34 _ _).mono ?_; rintro e w' ⟨rfl, rfl⟩) | (go_at_call 36; refine (truth36 _ _).mono ?_; rintro e w' ⟨rfl, rfl⟩) | (go_at_call 15; refine (wrap15 _ _).mono ?_; rintro e w' ⟨rfl, rfl⟩))
  go_ret3
  exact RSays.mk H.out

set_option maxHeartbeats 2000000 in
theorem rbin18A18 (v x : Int) (hv : isV v = true) (hx : isV x = true) (w : World) : Calls Try.prog 18 #[.int .i64 18, .int .i64 v, .int .i64 x] w (RSays 18 v x w) := by
  have H := hid (show rBin 18 v x = (wr (v - x), 0, true) from rBin_num (by omega) hv hx)
  obtain ⟨a0, a1⟩ := isV_iff.1 hv
  obtain ⟨b0, b1⟩ := isV_iff.1 hx
  go_enter Try.func18, Try.ntmps18
  go_wp2_with (first | (go_at_call 12; refine (isV12 _ _).mono ?_; rintro e w' ⟨rfl, rfl⟩) | (go_at_call 34; refine (bit34 _ _).mono ?_; rintro e w' ⟨rfl, rfl⟩) | (go_at_call 36; refine (truth36 _ _).mono ?_; rintro e w' ⟨rfl, rfl⟩) | (go_at_call 15; refine (wrap15 _ _).mono ?_; rintro e w' ⟨rfl, rfl⟩))
  go_ret3
  exact RSays.mk H.out

set_option maxHeartbeats 2000000 in
theorem rbin18A19 (v x : Int) (hv : isV v = true) (hx : isV x = true) (w : World) : Calls Try.prog 18 #[.int .i64 19, .int .i64 v, .int .i64 x] w (RSays 19 v x w) := by
  have H := hid (show rBin 19 v x = (wr (v * x), 0, true) from rBin_num (by omega) hv hx)
  have hm := mul_wrap (isV_iff.1 hv) (isV_iff.1 hx)
  go_enter Try.func18, Try.ntmps18
  go_wp2_with (first | (go_at_call 12; refine (isV12 _ _).mono ?_; rintro e w' ⟨rfl, rfl⟩) | (go_at_call 34; refine (bit34 _ _).mono ?_; rintro e w' ⟨rfl, rfl⟩) | (go_at_call 36; refine (truth36 _ _).mono ?_; rintro e w' ⟨rfl, rfl⟩) | (go_at_call 15; refine (wrap15 _ _).mono ?_; rintro e w' ⟨rfl, rfl⟩))
  go_ret3
  exact RSays.mk H.out

set_option maxHeartbeats 2000000 in
theorem rbin18Z20 (v : Int) (hv : isV v = true) (w : World) : Calls Try.prog 18 #[.int .i64 20, .int .i64 v, .int .i64 0] w (RSays 20 v 0 w) := by
  have H : Hid (rBin 20 v 0 = (0, 1, true)) := hid (by rw [rBin_num (by omega) hv (by decide)]; simp [numb])
  have hx : isV 0 = true := by decide
  go_enter Try.func18, Try.ntmps18
  go_wp2_with (go_at_call 12; refine (isV12 _ _).mono ?_; rintro e w' ⟨rfl, rfl⟩)
  go_ret3
  exact RSays.mk H.out

set_option maxHeartbeats 2000000 in
theorem rbin18Z21 (v : Int) (hv : isV v = true) (w : World) : Calls Try.prog 18 #[.int .i64 21, .int .i64 v, .int .i64 0] w (RSays 21 v 0 w) := by
  have H : Hid (rBin 21 v 0 = (0, 1, true)) := hid (by rw [rBin_num (by omega) hv (by decide)]; simp [numb])
  have hx : isV 0 = true := by decide
  go_enter Try.func18, Try.ntmps18
  go_wp2_with (go_at_call 12; refine (isV12 _ _).mono ?_; rintro e w' ⟨rfl, rfl⟩)
  go_ret3
  exact RSays.mk H.out

set_option maxHeartbeats 2000000 in
theorem rbin18D20 (v x : Int) (hv : isV v = true) (hx : isV x = true) (h : x ≠ 0) (w : World) : Calls Try.prog 18 #[.int .i64 20, .int .i64 v, .int .i64 x] w (RSays 20 v x w) := by
  have H := hid (show rBin 20 v x = (wr (v.tdiv x), 0, true) from by rw [rBin_num (by omega) hv hx]; simp [numb, h])
  have hm := tdiv_wrap (x := x) (isV_iff.1 hv)
  have hz : (x == 0) = false := by simpa using h
  go_enter Try.func18, Try.ntmps18
  go_wp2_with (first | (go_at_call 12; refine (isV12 _ _).mono ?_; rintro e w' ⟨rfl, rfl⟩) | (go_at_call 34; refine (bit34 _ _).mono ?_; rintro e w' ⟨rfl, rfl⟩) | (go_at_call 36; refine (truth36 _ _).mono ?_; rintro e w' ⟨rfl, rfl⟩) | (go_at_call 15; refine (wrap15 _ _).mono ?_; rintro e w' ⟨rfl, rfl⟩))
  go_ret3
  exact RSays.mk H.out

set_option maxHeartbeats 2000000 in
theorem rbin18D21 (v x : Int) (hv : isV v = true) (hx : isV x = true) (h : x ≠ 0) (w : World) : Calls Try.prog 18 #[.int .i64 21, .int .i64 v, .int .i64 x] w (RSays 21 v x w) := by
  have H := hid (show rBin 21 v x = (wr (v - v.tdiv x * x), 0, true) from by rw [rBin_num (by omega) hv hx]; simp [numb, h, Int.tmod_def, Int.mul_comm])
  have hz : (x == 0) = false := by simpa using h
  have hm := tdiv_wrap (x := x) (isV_iff.1 hv)
  have hd : v.tdiv x * x = v - v.tmod x := by rw [Int.tmod_def, Int.mul_comm]; omega
  have ht := tmod_bd (x := x) (isV_iff.1 hv)
  have hv' := isV_iff.1 hv
  have hm2 : wrap64 (v.tdiv x * x) = v.tdiv x * x := wrap64_in' (by omega) (by omega)
  have hm3 : wrap64 (v - v.tdiv x * x) = v - v.tdiv x * x := wrap64_in' (by omega) (by omega)
  clear hd ht hv'
  go_enter Try.func18, Try.ntmps18
  go_wp2_with (first | (go_at_call 12; refine (isV12 _ _).mono ?_; rintro e w' ⟨rfl, rfl⟩) | (go_at_call 34; refine (bit34 _ _).mono ?_; rintro e w' ⟨rfl, rfl⟩) | (go_at_call 36; refine (truth36 _ _).mono ?_; rintro e w' ⟨rfl, rfl⟩) | (go_at_call 15; refine (wrap15 _ _).mono ?_; rintro e w' ⟨rfl, rfl⟩))
  go_ret3
  exact RSays.mk H.out

set_option maxHeartbeats 2000000 in
theorem rbin18out (op v x : Int) (hv : isV v = true) (hx : isV x = true) (h : op < 8 ∨ 21 < op) (w : World) : Calls Try.prog 18 #[.int .i64 op, .int .i64 v, .int .i64 x] w (RSays op v x w) := by
  have H : Hid (rBin op v x = (0, 0, false)) := hid (by
    rw [rBin_num (by omega) hv hx]; unfold numb
    rw [if_neg (by omega), if_neg (by omega), if_neg (by omega), if_neg (by omega), if_neg (by omega)])
  have c8 : (op == 8) = false := by simp; omega
  have c9 : (op == 9) = false := by simp; omega
  have c10 : (op == 10) = false := by simp; omega
  have c11 : (op == 11) = false := by simp; omega
  have c12 : (op == 12) = false := by simp; omega
  have c13 : (op == 13) = false := by simp; omega
  have c14 : (op == 14) = false := by simp; omega
  have c15 : (op == 15) = false := by simp; omega
  have c16 : (op == 16) = false := by simp; omega
  have c17 : (op == 17) = false := by simp; omega
  have c18 : (op == 18) = false := by simp; omega
  have c19 : (op == 19) = false := by simp; omega
  have c20 : (op == 20) = false := by simp; omega
  have c21 : (op == 21) = false := by simp; omega
  clear h
  go_enter Try.func18, Try.ntmps18
  go_wp2_with (go_at_call 12; refine (isV12 _ _).mono ?_; rintro e w' ⟨rfl, rfl⟩)
  go_ret3
  exact RSays.mk H.out

theorem rbin18 (op v x : Int) (w : World) : Calls Try.prog 18 #[.int .i64 op, .int .i64 v, .int .i64 x] w (RSays op v x w) := by
  by_cases hv : (!isV v || !isV x) = true
  · exact rbin18no op v x hv w
  have h1 : isV v = true := by cases e : isV v <;> simp_all
  have h2 : isV x = true := by cases e : isV x <;> simp_all
  by_cases ho : op < 8 ∨ 21 < op
  · exact rbin18out op v x h1 h2 ho w
  rcases (show op = 8 ∨ op = 9 ∨ op = 10 ∨ op = 11 ∨ op = 12 ∨ op = 13 ∨ op = 14 ∨ op = 15 ∨ op = 16 ∨ op = 17 ∨ op = 18 ∨ op = 19 ∨ op = 20 ∨ op = 21 by omega) with rfl | rfl | rfl | rfl | rfl | rfl | rfl | rfl | rfl | rfl | rfl | rfl | rfl | rfl
  · cases hb : bit2 v x
    · exact rbin18N8 v x h1 h2 hb w
    · exact rbin18L8 v x h1 h2 hb w
  · cases hb : bit2 v x
    · exact rbin18N9 v x h1 h2 hb w
    · exact rbin18L9 v x h1 h2 hb w
  · cases hb : bit2 v x
    · exact rbin18N10 v x h1 h2 hb w
    · exact rbin18L10 v x h1 h2 hb w
  · exact rbin18C11 v x h1 h2 w
  · exact rbin18C12 v x h1 h2 w
  · exact rbin18C13 v x h1 h2 w
  · exact rbin18C14 v x h1 h2 w
  · exact rbin18C15 v x h1 h2 w
  · exact rbin18C16 v x h1 h2 w
  · exact rbin18A17 v x h1 h2 w
  · exact rbin18A18 v x h1 h2 w
  · exact rbin18A19 v x h1 h2 w
  · by_cases hz : x = 0
    · subst hz; exact rbin18Z20 v h1 w
    · exact rbin18D20 v x h1 h2 hz w
  · by_cases hz : x = 0
    · subst hz; exact rbin18Z21 v h1 w
    · exact rbin18D21 v x h1 h2 hz w

set_option maxHeartbeats 4000000 in
theorem ops5 (op v x : Int) (h0 : -9223372036854775808 ≤ v) (h1 : v ≤ 9223372036854775807) (w : World) :
    Calls Try.prog 5 #[.int .i64 op, .int .i64 v, .int .i64 x] w fun e w' => e = .returned (.bool true) ∧ Below w.heap.size w w' := by
  have U1 := fun W => un16 op v W
  have U2 := fun W => rUn17 op v W
  have B1 := fun W => bin13 op v x W
  have B2 := fun W => rbin18 op v x W
  unfold UnSays at U1
  unfold BinSays at B1
  unfold RSays at B2
  have W1 := fun W => hid (wrap10 v W h0 h1)
  rcases un_pair op v with ⟨r, e1, e2⟩ | ⟨r, e1, e2⟩ <;> rcases bin_pair op v x with ⟨s, f, e3, e4⟩ | ⟨e3, e4⟩
  all_goals
    rw [e1] at U1
    rw [e2] at U2
    rw [e3] at B1
    rw [e4] at B2
    clear e1 e2 e3 e4 h0 h1
    replace U1 := hid U1
    replace U2 := hid U2
    replace B1 := hid B1
    replace B2 := hid B2
    go_enter Try.func5, Try.ntmps5
    go_wp2_with fail
    refine (U1.out _).mono ?_
    rintro e w1 ⟨rfl, hb1⟩
    go_wp2_with fail
    refine (U2.out _).mono ?_
    rintro e w2 ⟨rfl, rfl⟩
    go_wp2_with fail
    refine (B1.out _).mono ?_
    rintro e w2 ⟨rfl, hb2⟩
    go_wp2_with fail
    refine (B2.out _).mono ?_
    rintro e w3 ⟨rfl, rfl⟩
    go_wp2_with (first | (go_at_call 10; refine (W1 _).out.mono ?_; rintro e w' ⟨rfl, rfl⟩) | (go_at_call 15; refine (wrap15 _ _).mono ?_; rintro e w' ⟨rfl, rfl⟩) | (go_at_call 11; refine (isV11 _ _).mono ?_; rintro e w' ⟨rfl, rfl⟩) | (go_at_call 12; refine (isV12 _ _).mono ?_; rintro e w' ⟨rfl, rfl⟩) | (go_at_call 14; refine (awake14 _).mono ?_; rintro e w4 ⟨rfl, hb4⟩))
    go_ret
    have s1 := hb1.size
    have s2 := hb2.size
    exact ⟨rfl, (hb1.trans (hb2.mono s1)).trans (hb4.mono (by omega))⟩

end Go.Proofs.Ytmkpoaapcghohaa
