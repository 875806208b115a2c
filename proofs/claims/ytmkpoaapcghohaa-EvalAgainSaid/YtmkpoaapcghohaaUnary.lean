/- Contracts: eval.Unary; the reference's Wrap. -/
import Derived.Test.YtmkpoaapcghohaaQuot
namespace Go.Proofs.Ytmkpoaapcghohaa
open Go.RowKit

/-- result, error -/
def un (op v : Int) : Int × Int := if op = 6 then (if bit v then (1 - v, 0) else (0, 2)) else if op = 7 then (if isV v then (wr (-v), 0) else (0, 2)) else (0, 2)
def UnSays (op v : Int) (w : World) (e : Ending) (w' : World) : Prop :=
  e = .returned (.tuple #[.int .i64 (un op v).1, .int .i64 (un op v).2]) ∧ Below w.heap.size w w'
theorem UnSays.mk {op v r g : Int} {w w' : World} (h : un op v = (r, g)) (hb : Below w.heap.size w w') : UnSays op v w (.returned (.tuple #[.int .i64 r, .int .i64 g])) w' := by
  unfold UnSays; rw [h]; exact ⟨rfl, hb⟩

set_option maxHeartbeats 2000000 in
theorem un16 (op v : Int) (w : World) : Calls Try.prog 16 #[.int .i64 op, .int .i64 v] w (UnSays op v w) := by
  by_cases h6 : op = 6
  · subst h6
    cases hb : bit v
    · have H : Hid (un 6 v = (0, 2)) := hid (by simp [un, hb])
      go_enter Try.func16, Try.ntmps16
      go_wp2_with (go_at_call 31; refine (truth31lone _ _).mono ?_; rintro e w' ⟨rfl, rfl⟩)
      go_ret2
      exact UnSays.mk H.out ((Below.refl _ _).alloc (Nat.le_refl _) _)
    · have H : un 6 v = (1 - v, 0) := by simp [un, hb]
      rcases bit_iff.1 hb with rfl | rfl
      · replace H := hid H
        go_enter Try.func16, Try.ntmps16
        go_wp2_with (go_at_call 31; refine (truth31lone _ _).mono ?_; rintro e w' ⟨rfl, rfl⟩)
        go_ret2
        exact UnSays.mk H.out ((Below.refl _ _).alloc (Nat.le_refl _) _)
      · replace H := hid H
        go_enter Try.func16, Try.ntmps16
        go_wp2_with (go_at_call 31; refine (truth31lone _ _).mono ?_; rintro e w' ⟨rfl, rfl⟩)
        go_ret2
        exact UnSays.mk H.out ((Below.refl _ _).alloc (Nat.le_refl _) _)
  by_cases h7 : op = 7
  · subst h7
    cases hb : isV v
    · have H : Hid (un 7 v = (0, 2)) := hid (by simp [un, hb])
      go_enter Try.func16, Try.ntmps16
      go_wp2_with (go_at_call 11; refine (isV11 _ _).mono ?_; rintro e w' ⟨rfl, rfl⟩)
      go_ret2
      exact UnSays.mk H.out (Below.refl _ _)
    · have H : Hid (un 7 v = (wr (-v), 0)) := hid (by simp [un, hb])
      obtain ⟨b0, b1⟩ := isV_iff.1 hb
      go_enter Try.func16, Try.ntmps16
      go_wp2_with (first | (go_at_call 11; refine (isV11 _ _).mono ?_; rintro e w' ⟨rfl, rfl⟩) | (go_at_call 10; refine (wrap10 _ _ (by omega) (by omega)).mono ?_; rintro e w' ⟨rfl, rfl⟩))
      go_ret2
      exact UnSays.mk H.out (Below.refl _ _)
  · have H : Hid (un op v = (0, 2)) := hid (by simp [un, h6, h7])
    have b6 : (op == 6) = false := by simpa using h6
    have b7 : (op == 7) = false := by simpa using h7
    go_enter Try.func16, Try.ntmps16
    go_wp2
    go_ret2
    exact UnSays.mk H.out (Below.refl _ _)
theorem un16at {op v r g : Int} (h : un op v = (r, g)) (w : World) :
    Calls Try.prog 16 #[.int .i64 op, .int .i64 v] w fun e w' => e = .returned (.tuple #[.int .i64 r, .int .i64 g]) ∧ Below w.heap.size w w' := by
  have := un16 op v w
  unfold UnSays at this
  rw [h] at this
  exact this
end Go.Proofs.Ytmkpoaapcghohaa
