/- The law's 'awake' returns true. -/
import Derived.Test.YtmkpoaapcghohaaLeafG
namespace Go.Proofs.Ytmkpoaapcghohaa
open Go.RowKit

theorem bin_a : bin 17 2147483647 1 = (-2147483648, 0, 0) := by decide
theorem bin_b : bin 21 (-7) 2 = (-1, 0, 0) := by decide
theorem bin_c : bin 20 1 0 = (0, 1, 0) := by decide
theorem bin13at {op v x r f g : Int} (h : bin op v x = (r, f, g)) (w : World) :
    Calls Try.prog 13 #[.int .i64 op, .int .i64 v, .int .i64 x] w fun e w' => e = .returned (.tuple #[.int .i64 r, .int .i64 f, .int .i64 g]) ∧ Below w.heap.size w w' := by
  have := bin13 op v x w
  unfold BinSays at this
  rw [h] at this
  exact this

def limitS : ByteArray := { data := #[108, 105, 109, 105, 116] }
theorem nameK_limit : nameK { data := #[108, 105, 109, 105, 116] } = 3 := by unfold nameK; rw [ByteArray.toList_eq]; decide
theorem ints_three (W : World) (x y z : Int) : Ints (W.alloc (.cells #[.int .i64 x, .int .i64 y, .int .i64 z] 3)) ⟨W.heap.size, 0, none⟩ [x, y, z] := by
  refine ⟨by simp, fun i hi => ?_⟩
  match i, hi with
  | 0, _ => simp [Addr.add]
  | 1, _ => simp [Addr.add]
  | 2, _ => simp [Addr.add]
theorem call_limit (W : World) : Calls Try.prog 20 #[.string { data := #[108, 105, 109, 105, 116] }, .slice (some ⟨W.heap.size, 0, none⟩) 3 3] (W.alloc (.cells #[.int .i64 0, .int .i64 7, .int .i64 5] 3))
    fun e w' => e = .returned (.tuple #[.int .i64 5, .int .i64 0]) ∧ Below (W.heap.size + 1) (W.alloc (.cells #[.int .i64 0, .int .i64 7, .int .i64 5] 3)) w' := by
  have h := call20_eq _ 3 3 nameK_limit (by omega) _ 3 [0, 7, 5] _ (ints_three W 0 7 5) rfl rfl (by omega)
  refine h.mono fun e w' ⟨he, hb⟩ => ⟨?_, ?_⟩
  · rw [he]; rfl
  · simpa using hb

set_option maxHeartbeats 4000000 in
theorem awake14 (w : World) : Calls Try.prog 14 #[] w fun e w' => e = .returned (.bool true) ∧ Below w.heap.size w w' := by
  have i5 : isV 5 = true := by decide
  have w5 : wr (-5) = -5 := by decide
  go_enter Try.func14, Try.ntmps14
  go_wp2_with fail
  refine (bin13at bin_a _).mono ?_
  rintro e w1 ⟨rfl, hb1⟩
  go_wp2_with fail
  refine (bin13at bin_b _).mono ?_
  rintro e w2 ⟨rfl, hb2⟩
  go_wp2_with fail
  refine (bin13at bin_c _).mono ?_
  rintro e w3 ⟨rfl, hb3⟩
  go_wp2_with fail
  refine (call_limit _).mono ?_
  rintro e w4 ⟨rfl, hb4⟩
  have s1 := hb1.size
  have s2 := hb2.size
  have s3 := hb3.size
  go_wp2_with (first | (go_at_call 11; refine (isV11 _ _).mono ?_; rintro e w' ⟨rfl, rfl⟩) | (go_at_call 10; refine (wrap10 _ _ (by omega) (by omega)).mono ?_; rintro e w' ⟨rfl, rfl⟩))
  go_ret
  refine ⟨rfl, ?_⟩
  exact (((hb1.trans (hb2.mono s1)).trans (hb3.mono (by omega))).alloc (by omega) _).trans (hb4.mono (by omega))

end Go.Proofs.Ytmkpoaapcghohaa
