/- The walk of the law EvalCompares. -/
import Derived.Test.YtmkpoaapcghohaaUnary
namespace Go.Proofs.Ytmkpoaapcghohaa
open Go.RowKit

/-- an array of ints in a block of its own -/
def Arr (W : World) (B n : Nat) (f : Nat → Int) : Prop := ∀ j, j < n → W.cell? ⟨B, j, none⟩ = some (.int .i64 (f j)) ∧ W.frozen? ⟨B, j, none⟩ = false
theorem Arr.below {W W' : World} {B n : Nat} {f : Nat → Int} {D : Nat} (h : Arr W B n f) (hB : B < D) (hb : Below D W W') : Arr W' B n f :=
  fun j hj => ⟨(hb.cell (p := ⟨B, j, none⟩) hB).trans (h j hj).1, (hb.frozen (p := ⟨B, j, none⟩) hB).trans (h j hj).2⟩
theorem Arr.store {W : World} {B n : Nat} {f g : Nat → Int} {k : Nat} {v : Int} (h : Arr W B n f) (hk : k < n) (hv : g k = v) (hg : ∀ j, j ≠ k → g j = f j) : Arr (W.setCell ⟨B, k, none⟩ (.int .i64 v)) B n g := by
  intro j hj
  by_cases e : j = k
  · subst e
    exact ⟨by rw [World.cell?_setCell_same _ _ _ (h j hj).1, hv], by rw [World.frozen?_setCell]; exact (h j hj).2⟩
  · refine ⟨?_, by rw [World.frozen?_setCell]; exact (h j hj).2⟩
    rw [World.cell?_setCell_other _ _ _ _ (by intro c; injection c with _ c2 _; exact e c2.symm), hg j e]
    exact (h j hj).1
theorem Arr.other {W : World} {B n : Nat} {f : Nat → Int} {p : Addr} {v : Value} (h : Arr W B n f) (hp : p.block ≠ B) : Arr (W.setCell p v) B n f := by
  intro j hj
  refine ⟨?_, by rw [World.frozen?_setCell]; exact (h j hj).2⟩
  rw [World.cell?_setCell_other _ _ _ _ (by intro c; subst c; exact hp rfl)]
  exact (h j hj).1
def upto (cs : List Int) (k : Nat) : Nat → Int := fun j => if j < k then cs.getD j 0 else 0
def opsF : Nat → Int := fun j => [13, 11, 15, 16, 12, 14].getD j 0
def full (cs : List Int) : Nat → Int := fun j => cs.getD j 0
theorem upto_next (cs : List Int) (k j : Nat) (h : j ≠ k) : upto cs (k + 1) j = upto cs k j := by
  unfold upto
  by_cases h1 : j < k
  · rw [if_pos h1, if_pos (by omega)]
  · rw [if_neg h1, if_neg (by omega)]
theorem upto_full {W : World} {B : Nat} (cs : List Int) (h : Arr W B 6 (upto cs 6)) : Arr W B 6 (full cs) := by
  intro j hj
  have := h j hj
  unfold upto at this
  rw [if_pos hj] at this
  exact this
theorem bin_cmpR {op v x : Int} {t : Bool} (h0 : 11 ≤ op) (h1 : op ≤ 16) (hv : isV v = true) (hx : isV x = true) (h : cmpOp op v x = tr t) : bin op v x = (tr t, 0, 0) := by rw [bin_cmp h0 h1 hv hx, h]

set_option maxHeartbeats 8000000 in
theorem cmp6lt (x y a b : Int) (ha : a = wr x) (hb : b = wr y) (h : a < b) (w : World) :
    Calls Try.prog 6 #[.int .i64 x, .int .i64 y] w fun e w' => e = .returned (.bool true) ∧ Below w.heap.size w w' := by
  have va : isV a = true := by rw [ha]; exact wr_isV _
  have vb : isV b = true := by rw [hb]; exact wr_isV _
  have C1 : ∀ W, Calls Try.prog 15 #[.int .i64 x] W fun e w' => e = .returned (.int .i64 a) ∧ W = w' := fun W => by rw [ha]; exact wrap15 x W
  have C2 : ∀ W, Calls Try.prog 15 #[.int .i64 y] W fun e w' => e = .returned (.int .i64 b) ∧ W = w' := fun W => by rw [hb]; exact wrap15 y W
  replace C1 := hid C1
  replace C2 := hid C2
  have B0 := hid (bin13at (show bin 13 a b = (1, 0, 0) from by rw [bin_cmp (by omega) (by omega) va vb]; simp [cmpOp, tr]; omega))
  have B1 := hid (bin13at (show bin 11 a b = (0, 0, 0) from by rw [bin_cmp (by omega) (by omega) va vb]; simp [cmpOp, tr]; omega))
  have B2 := hid (bin13at (show bin 15 a b = (0, 0, 0) from by rw [bin_cmp (by omega) (by omega) va vb]; simp [cmpOp, tr]; omega))
  have B3 := hid (bin13at (show bin 16 a b = (0, 0, 0) from by rw [bin_cmp (by omega) (by omega) va vb]; simp [cmpOp, tr]; omega))
  have B4 := hid (bin13at (show bin 12 a b = (1, 0, 0) from by rw [bin_cmp (by omega) (by omega) va vb]; simp [cmpOp, tr]; omega))
  have B5 := hid (bin13at (show bin 14 a b = (1, 0, 0) from by rw [bin_cmp (by omega) (by omega) va vb]; simp [cmpOp, tr]; omega))
  have U0 := hid (un16at (show un 6 1 = (0, 0) from by decide))
  have U1 := hid (un16at (show un 6 0 = (1, 0) from by decide))
  have U2 := hid (un16at (show un 6 0 = (1, 0) from by decide))
  clear ha hb va vb h
  go_enter Try.func6, Try.ntmps6
  go_wp2_with fail
  refine (C1.out _).mono ?_
  rintro e w1 ⟨rfl, rfl⟩
  go_wp2_with fail
  refine (C2.out _).mono ?_
  rintro e w1 ⟨rfl, rfl⟩
  go_wp2_with fail
  obtain ⟨W0, hW0⟩ : ∃ W0, W0 = ((w.alloc (.cells #[.int .i64 13, .int .i64 11, .int .i64 15, .int .i64 16, .int .i64 12, .int .i64 14] 37)).alloc (.cells #[.int .i64 0, .int .i64 0, .int .i64 0, .int .i64 0, .int .i64 0, .int .i64 0] 37)) := ⟨_, rfl⟩
  have A0 : Arr W0 w.heap.size 6 opsF := by
    intro j hj
    rw [hW0]
    match j, hj with
    | 0, _ => simp [opsF]
    | 1, _ => simp [opsF]
    | 2, _ => simp [opsF]
    | 3, _ => simp [opsF]
    | 4, _ => simp [opsF]
    | 5, _ => simp [opsF]
  have A1 : Arr W0 (w.heap.size + 1) 6 (upto [1, 0, 0, 0, 1, 1] 0) := by
    intro j hj
    rw [hW0]
    match j, hj with
    | 0, _ => simp [upto]
    | 1, _ => simp [upto]
    | 2, _ => simp [upto]
    | 3, _ => simp [upto]
    | 4, _ => simp [upto]
    | 5, _ => simp [upto]
  have hB0 : Below w.heap.size w W0 := by rw [hW0]; exact ((Below.refl _ _).alloc (Nat.le_refl _) _).alloc (by simp) _
  have hsz : w.heap.size + 2 ≤ W0.heap.size := by rw [hW0]; simp
  replace A0 := hid A0
  replace A1 := hid A1
  rw [← hW0]
  clear hW0
  go_loopw [9] (fun i wr => ∃ k : Nat, k ≤ 6 ∧ i = .int .i64 k ∧ Hid (Arr wr w.heap.size 6 opsF) ∧ Hid (Arr wr (w.heap.size + 1) 6 (upto [1, 0, 0, 0, 1, 1] k)) ∧ Below w.heap.size w wr ∧ w.heap.size + 2 ≤ wr.heap.size)
    (fun i _ => 6 - (intOf i).toNat)
  case atStart => exact ⟨0, by omega, rfl, A0, A1, hB0, hsz⟩
  case round =>
    clear A0 A1 hB0 hsz
    obtain ⟨k, hk, rfl, A0, A1, hB0, hsz⟩ := hrel
    by_cases hk0 : k = 0
    · subst hk0
      have c0 : wr.cell? ⟨w.heap.size, 0, none⟩ = some (.int .i64 13) := (A0.out 0 (by omega)).1
      go_wp2_with fail
      refine (B0.out _).mono ?_
      rintro e w1 ⟨rfl, hb1⟩
      have A1' := A1.out.below (by omega) hb1
      have A0' := A0.out.below (by omega) hb1
      have hB1 := hB0.trans (hb1.mono (by omega))
      have hs1 := hb1.size
      have c1 : w1.cell? ⟨w.heap.size + 1, 0, none⟩ = some (.int .i64 0) := (A1' 0 (by omega)).1
      have c2 : w1.frozen? ⟨w.heap.size + 1, 0, none⟩ = false := (A1' 0 (by omega)).2
      replace A0' := hid A0'
      replace A1' := hid A1'
      go_wp2
      go_roundw
      case rel => exact ⟨1, by omega, by go_num, hid (A0'.out.other (by simp)), hid (A1'.out.store (by omega) rfl (fun j hj => upto_next _ _ _ hj)), hB1.setCell (by simp) _, by simp [World.setCell]; omega⟩
      case measure => simp [intOf]
    by_cases hk1 : k = 1
    · subst hk1
      have c0 : wr.cell? ⟨w.heap.size, 1, none⟩ = some (.int .i64 11) := (A0.out 1 (by omega)).1
      go_wp2_with fail
      refine (B1.out _).mono ?_
      rintro e w1 ⟨rfl, hb1⟩
      have A1' := A1.out.below (by omega) hb1
      have A0' := A0.out.below (by omega) hb1
      have hB1 := hB0.trans (hb1.mono (by omega))
      have hs1 := hb1.size
      have c1 : w1.cell? ⟨w.heap.size + 1, 1, none⟩ = some (.int .i64 0) := (A1' 1 (by omega)).1
      have c2 : w1.frozen? ⟨w.heap.size + 1, 1, none⟩ = false := (A1' 1 (by omega)).2
      replace A0' := hid A0'
      replace A1' := hid A1'
      go_wp2
      go_roundw
      case rel => exact ⟨2, by omega, by go_num, hid (A0'.out.other (by simp)), hid (A1'.out.store (by omega) rfl (fun j hj => upto_next _ _ _ hj)), hB1.setCell (by simp) _, by simp [World.setCell]; omega⟩
      case measure => simp [intOf]
    by_cases hk2 : k = 2
    · subst hk2
      have c0 : wr.cell? ⟨w.heap.size, 2, none⟩ = some (.int .i64 15) := (A0.out 2 (by omega)).1
      go_wp2_with fail
      refine (B2.out _).mono ?_
      rintro e w1 ⟨rfl, hb1⟩
      have A1' := A1.out.below (by omega) hb1
      have A0' := A0.out.below (by omega) hb1
      have hB1 := hB0.trans (hb1.mono (by omega))
      have hs1 := hb1.size
      have c1 : w1.cell? ⟨w.heap.size + 1, 2, none⟩ = some (.int .i64 0) := (A1' 2 (by omega)).1
      have c2 : w1.frozen? ⟨w.heap.size + 1, 2, none⟩ = false := (A1' 2 (by omega)).2
      replace A0' := hid A0'
      replace A1' := hid A1'
      go_wp2
      go_roundw
      case rel => exact ⟨3, by omega, by go_num, hid (A0'.out.other (by simp)), hid (A1'.out.store (by omega) rfl (fun j hj => upto_next _ _ _ hj)), hB1.setCell (by simp) _, by simp [World.setCell]; omega⟩
      case measure => simp [intOf]
    by_cases hk3 : k = 3
    · subst hk3
      have c0 : wr.cell? ⟨w.heap.size, 3, none⟩ = some (.int .i64 16) := (A0.out 3 (by omega)).1
      go_wp2_with fail
      refine (B3.out _).mono ?_
      rintro e w1 ⟨rfl, hb1⟩
      have A1' := A1.out.below (by omega) hb1
      have A0' := A0.out.below (by omega) hb1
      have hB1 := hB0.trans (hb1.mono (by omega))
      have hs1 := hb1.size
      have c1 : w1.cell? ⟨w.heap.size + 1, 3, none⟩ = some (.int .i64 0) := (A1' 3 (by omega)).1
      have c2 : w1.frozen? ⟨w.heap.size + 1, 3, none⟩ = false := (A1' 3 (by omega)).2
      replace A0' := hid A0'
      replace A1' := hid A1'
      go_wp2
      go_roundw
      case rel => exact ⟨4, by omega, by go_num, hid (A0'.out.other (by simp)), hid (A1'.out.store (by omega) rfl (fun j hj => upto_next _ _ _ hj)), hB1.setCell (by simp) _, by simp [World.setCell]; omega⟩
      case measure => simp [intOf]
    by_cases hk4 : k = 4
    · subst hk4
      have c0 : wr.cell? ⟨w.heap.size, 4, none⟩ = some (.int .i64 12) := (A0.out 4 (by omega)).1
      go_wp2_with fail
      refine (B4.out _).mono ?_
      rintro e w1 ⟨rfl, hb1⟩
      have A1' := A1.out.below (by omega) hb1
      have A0' := A0.out.below (by omega) hb1
      have hB1 := hB0.trans (hb1.mono (by omega))
      have hs1 := hb1.size
      have c1 : w1.cell? ⟨w.heap.size + 1, 4, none⟩ = some (.int .i64 0) := (A1' 4 (by omega)).1
      have c2 : w1.frozen? ⟨w.heap.size + 1, 4, none⟩ = false := (A1' 4 (by omega)).2
      replace A0' := hid A0'
      replace A1' := hid A1'
      go_wp2
      go_roundw
      case rel => exact ⟨5, by omega, by go_num, hid (A0'.out.other (by simp)), hid (A1'.out.store (by omega) rfl (fun j hj => upto_next _ _ _ hj)), hB1.setCell (by simp) _, by simp [World.setCell]; omega⟩
      case measure => simp [intOf]
    by_cases hk5 : k = 5
    · subst hk5
      have c0 : wr.cell? ⟨w.heap.size, 5, none⟩ = some (.int .i64 14) := (A0.out 5 (by omega)).1
      go_wp2_with fail
      refine (B5.out _).mono ?_
      rintro e w1 ⟨rfl, hb1⟩
      have A1' := A1.out.below (by omega) hb1
      have A0' := A0.out.below (by omega) hb1
      have hB1 := hB0.trans (hb1.mono (by omega))
      have hs1 := hb1.size
      have c1 : w1.cell? ⟨w.heap.size + 1, 5, none⟩ = some (.int .i64 0) := (A1' 5 (by omega)).1
      have c2 : w1.frozen? ⟨w.heap.size + 1, 5, none⟩ = false := (A1' 5 (by omega)).2
      replace A0' := hid A0'
      replace A1' := hid A1'
      go_wp2
      go_roundw
      case rel => exact ⟨6, by omega, by go_num, hid (A0'.out.other (by simp)), hid (A1'.out.store (by omega) rfl (fun j hj => upto_next _ _ _ hj)), hB1.setCell (by simp) _, by simp [World.setCell]; omega⟩
      case measure => simp [intOf]
    obtain rfl : k = 6 := by omega
    have A := hid (upto_full _ A1.out)
    clear A0 A1
    rw [show ((6 : Nat) : Int) = (6 : Int) from rfl]
    go_wp2
    go_loopw [13] (fun i wz => ∃ k : Nat, k ≤ 3 ∧ i = .int .i64 k ∧ Hid (Arr wz (w.heap.size + 1) 6 (full [1, 0, 0, 0, 1, 1])) ∧ Below w.heap.size w wz ∧ w.heap.size + 2 ≤ wz.heap.size)
      (fun i _ => 3 - (intOf i).toNat)
    case atStart => exact ⟨0, by omega, rfl, A, hB0, hsz⟩
    case round =>
      clear A hB0 hsz
      obtain ⟨k, hk, rfl, A, hB0, hsz⟩ := hrel
      by_cases hk0 : k = 0
      · subst hk0
        have c0 := (A.out 0 (by omega)).1
        change _ = some (Value.int .i64 1) at c0
        go_wp2_with fail
        refine (U0.out _).mono ?_
        rintro e w1 ⟨rfl, hb1⟩
        have A' := A.out.below (by omega) hb1
        have hB1 := hB0.trans (hb1.mono (by omega))
        have hs1 := hb1.size
        have c1 := (A' 3 (by omega)).1
        change _ = some (Value.int .i64 0) at c1
        replace A' := hid A'
        go_wp2
        go_roundw
        case rel => exact ⟨1, by omega, by go_num, A', hB1, by omega⟩
        case measure => simp [intOf]
      by_cases hk1 : k = 1
      · subst hk1
        have c0 := (A.out 1 (by omega)).1
        change _ = some (Value.int .i64 0) at c0
        go_wp2_with fail
        refine (U1.out _).mono ?_
        rintro e w1 ⟨rfl, hb1⟩
        have A' := A.out.below (by omega) hb1
        have hB1 := hB0.trans (hb1.mono (by omega))
        have hs1 := hb1.size
        have c1 := (A' 4 (by omega)).1
        change _ = some (Value.int .i64 1) at c1
        replace A' := hid A'
        go_wp2
        go_roundw
        case rel => exact ⟨2, by omega, by go_num, A', hB1, by omega⟩
        case measure => simp [intOf]
      by_cases hk2 : k = 2
      · subst hk2
        have c0 := (A.out 2 (by omega)).1
        change _ = some (Value.int .i64 0) at c0
        go_wp2_with fail
        refine (U2.out _).mono ?_
        rintro e w1 ⟨rfl, hb1⟩
        have A' := A.out.below (by omega) hb1
        have hB1 := hB0.trans (hb1.mono (by omega))
        have hs1 := hb1.size
        have c1 := (A' 5 (by omega)).1
        change _ = some (Value.int .i64 1) at c1
        replace A' := hid A'
        go_wp2
        go_roundw
        case rel => exact ⟨3, by omega, by go_num, A', hB1, by omega⟩
        case measure => simp [intOf]
      obtain rfl : k = 3 := by omega
      have c0 := (A.out 0 (by omega)).1
      have c1 := (A.out 1 (by omega)).1
      have c2 := (A.out 2 (by omega)).1
      change _ = some (Value.int .i64 1) at c0
      change _ = some (Value.int .i64 0) at c1
      change _ = some (Value.int .i64 0) at c2
      go_wp2_with (go_at_call 14; refine (awake14 _).mono ?_; rintro e w4 ⟨rfl, hb4⟩)
      go_ret
      exact ⟨rfl, hB0.trans (hb4.mono (by omega))⟩

set_option maxHeartbeats 8000000 in
theorem cmp6eq (x y a b : Int) (ha : a = wr x) (hb : b = wr y) (h : a = b) (w : World) :
    Calls Try.prog 6 #[.int .i64 x, .int .i64 y] w fun e w' => e = .returned (.bool true) ∧ Below w.heap.size w w' := by
  have va : isV a = true := by rw [ha]; exact wr_isV _
  have vb : isV b = true := by rw [hb]; exact wr_isV _
  have C1 : ∀ W, Calls Try.prog 15 #[.int .i64 x] W fun e w' => e = .returned (.int .i64 a) ∧ W = w' := fun W => by rw [ha]; exact wrap15 x W
  have C2 : ∀ W, Calls Try.prog 15 #[.int .i64 y] W fun e w' => e = .returned (.int .i64 b) ∧ W = w' := fun W => by rw [hb]; exact wrap15 y W
  replace C1 := hid C1
  replace C2 := hid C2
  have B0 := hid (bin13at (show bin 13 a b = (0, 0, 0) from by rw [bin_cmp (by omega) (by omega) va vb]; simp [cmpOp, tr]; omega))
  have B1 := hid (bin13at (show bin 11 a b = (1, 0, 0) from by rw [bin_cmp (by omega) (by omega) va vb]; simp [cmpOp, tr]; omega))
  have B2 := hid (bin13at (show bin 15 a b = (0, 0, 0) from by rw [bin_cmp (by omega) (by omega) va vb]; simp [cmpOp, tr]; omega))
  have B3 := hid (bin13at (show bin 16 a b = (1, 0, 0) from by rw [bin_cmp (by omega) (by omega) va vb]; simp [cmpOp, tr]; omega))
  have B4 := hid (bin13at (show bin 12 a b = (0, 0, 0) from by rw [bin_cmp (by omega) (by omega) va vb]; simp [cmpOp, tr]; omega))
  have B5 := hid (bin13at (show bin 14 a b = (1, 0, 0) from by rw [bin_cmp (by omega) (by omega) va vb]; simp [cmpOp, tr]; omega))
  have U0 := hid (un16at (show un 6 0 = (1, 0) from by decide))
  have U1 := hid (un16at (show un 6 1 = (0, 0) from by decide))
  have U2 := hid (un16at (show un 6 0 = (1, 0) from by decide))
  clear ha hb va vb h
  go_enter Try.func6, Try.ntmps6
  go_wp2_with fail
  refine (C1.out _).mono ?_
  rintro e w1 ⟨rfl, rfl⟩
  go_wp2_with fail
  refine (C2.out _).mono ?_
  rintro e w1 ⟨rfl, rfl⟩
  go_wp2_with fail
  obtain ⟨W0, hW0⟩ : ∃ W0, W0 = ((w.alloc (.cells #[.int .i64 13, .int .i64 11, .int .i64 15, .int .i64 16, .int .i64 12, .int .i64 14] 37)).alloc (.cells #[.int .i64 0, .int .i64 0, .int .i64 0, .int .i64 0, .int .i64 0, .int .i64 0] 37)) := ⟨_, rfl⟩
  have A0 : Arr W0 w.heap.size 6 opsF := by
    intro j hj
    rw [hW0]
    match j, hj with
    | 0, _ => simp [opsF]
    | 1, _ => simp [opsF]
    | 2, _ => simp [opsF]
    | 3, _ => simp [opsF]
    | 4, _ => simp [opsF]
    | 5, _ => simp [opsF]
  have A1 : Arr W0 (w.heap.size + 1) 6 (upto [0, 1, 0, 1, 0, 1] 0) := by
    intro j hj
    rw [hW0]
    match j, hj with
    | 0, _ => simp [upto]
    | 1, _ => simp [upto]
    | 2, _ => simp [upto]
    | 3, _ => simp [upto]
    | 4, _ => simp [upto]
    | 5, _ => simp [upto]
  have hB0 : Below w.heap.size w W0 := by rw [hW0]; exact ((Below.refl _ _).alloc (Nat.le_refl _) _).alloc (by simp) _
  have hsz : w.heap.size + 2 ≤ W0.heap.size := by rw [hW0]; simp
  replace A0 := hid A0
  replace A1 := hid A1
  rw [← hW0]
  clear hW0
  go_loopw [9] (fun i wr => ∃ k : Nat, k ≤ 6 ∧ i = .int .i64 k ∧ Hid (Arr wr w.heap.size 6 opsF) ∧ Hid (Arr wr (w.heap.size + 1) 6 (upto [0, 1, 0, 1, 0, 1] k)) ∧ Below w.heap.size w wr ∧ w.heap.size + 2 ≤ wr.heap.size)
    (fun i _ => 6 - (intOf i).toNat)
  case atStart => exact ⟨0, by omega, rfl, A0, A1, hB0, hsz⟩
  case round =>
    clear A0 A1 hB0 hsz
    obtain ⟨k, hk, rfl, A0, A1, hB0, hsz⟩ := hrel
    by_cases hk0 : k = 0
    · subst hk0
      have c0 : wr.cell? ⟨w.heap.size, 0, none⟩ = some (.int .i64 13) := (A0.out 0 (by omega)).1
      go_wp2_with fail
      refine (B0.out _).mono ?_
      rintro e w1 ⟨rfl, hb1⟩
      have A1' := A1.out.below (by omega) hb1
      have A0' := A0.out.below (by omega) hb1
      have hB1 := hB0.trans (hb1.mono (by omega))
      have hs1 := hb1.size
      have c1 : w1.cell? ⟨w.heap.size + 1, 0, none⟩ = some (.int .i64 0) := (A1' 0 (by omega)).1
      have c2 : w1.frozen? ⟨w.heap.size + 1, 0, none⟩ = false := (A1' 0 (by omega)).2
      replace A0' := hid A0'
      replace A1' := hid A1'
      go_wp2
      go_roundw
      case rel => exact ⟨1, by omega, by go_num, hid (A0'.out.other (by simp)), hid (A1'.out.store (by omega) rfl (fun j hj => upto_next _ _ _ hj)), hB1.setCell (by simp) _, by simp [World.setCell]; omega⟩
      case measure => simp [intOf]
    by_cases hk1 : k = 1
    · subst hk1
      have c0 : wr.cell? ⟨w.heap.size, 1, none⟩ = some (.int .i64 11) := (A0.out 1 (by omega)).1
      go_wp2_with fail
      refine (B1.out _).mono ?_
      rintro e w1 ⟨rfl, hb1⟩
      have A1' := A1.out.below (by omega) hb1
      have A0' := A0.out.below (by omega) hb1
      have hB1 := hB0.trans (hb1.mono (by omega))
      have hs1 := hb1.size
      have c1 : w1.cell? ⟨w.heap.size + 1, 1, none⟩ = some (.int .i64 0) := (A1' 1 (by omega)).1
      have c2 : w1.frozen? ⟨w.heap.size + 1, 1, none⟩ = false := (A1' 1 (by omega)).2
      replace A0' := hid A0'
      replace A1' := hid A1'
      go_wp2
      go_roundw
      case rel => exact ⟨2, by omega, by go_num, hid (A0'.out.other (by simp)), hid (A1'.out.store (by omega) rfl (fun j hj => upto_next _ _ _ hj)), hB1.setCell (by simp) _, by simp [World.setCell]; omega⟩
      case measure => simp [intOf]
    by_cases hk2 : k = 2
    · subst hk2
      have c0 : wr.cell? ⟨w.heap.size, 2, none⟩ = some (.int .i64 15) := (A0.out 2 (by omega)).1
      go_wp2_with fail
      refine (B2.out _).mono ?_
      rintro e w1 ⟨rfl, hb1⟩
      have A1' := A1.out.below (by omega) hb1
      have A0' := A0.out.below (by omega) hb1
      have hB1 := hB0.trans (hb1.mono (by omega))
      have hs1 := hb1.size
      have c1 : w1.cell? ⟨w.heap.size + 1, 2, none⟩ = some (.int .i64 0) := (A1' 2 (by omega)).1
      have c2 : w1.frozen? ⟨w.heap.size + 1, 2, none⟩ = false := (A1' 2 (by omega)).2
      replace A0' := hid A0'
      replace A1' := hid A1'
      go_wp2
      go_roundw
      case rel => exact ⟨3, by omega, by go_num, hid (A0'.out.other (by simp)), hid (A1'.out.store (by omega) rfl (fun j hj => upto_next _ _ _ hj)), hB1.setCell (by simp) _, by simp [World.setCell]; omega⟩
      case measure => simp [intOf]
    by_cases hk3 : k = 3
    · subst hk3
      have c0 : wr.cell? ⟨w.heap.size, 3, none⟩ = some (.int .i64 16) := (A0.out 3 (by omega)).1
      go_wp2_with fail
      refine (B3.out _).mono ?_
      rintro e w1 ⟨rfl, hb1⟩
      have A1' := A1.out.below (by omega) hb1
      have A0' := A0.out.below (by omega) hb1
      have hB1 := hB0.trans (hb1.mono (by omega))
      have hs1 := hb1.size
      have c1 : w1.cell? ⟨w.heap.size + 1, 3, none⟩ = some (.int .i64 0) := (A1' 3 (by omega)).1
      have c2 : w1.frozen? ⟨w.heap.size + 1, 3, none⟩ = false := (A1' 3 (by omega)).2
      replace A0' := hid A0'
      replace A1' := hid A1'
      go_wp2
      go_roundw
      case rel => exact ⟨4, by omega, by go_num, hid (A0'.out.other (by simp)), hid (A1'.out.store (by omega) rfl (fun j hj => upto_next _ _ _ hj)), hB1.setCell (by simp) _, by simp [World.setCell]; omega⟩
      case measure => simp [intOf]
    by_cases hk4 : k = 4
    · subst hk4
      have c0 : wr.cell? ⟨w.heap.size, 4, none⟩ = some (.int .i64 12) := (A0.out 4 (by omega)).1
      go_wp2_with fail
      refine (B4.out _).mono ?_
      rintro e w1 ⟨rfl, hb1⟩
      have A1' := A1.out.below (by omega) hb1
      have A0' := A0.out.below (by omega) hb1
      have hB1 := hB0.trans (hb1.mono (by omega))
      have hs1 := hb1.size
      have c1 : w1.cell? ⟨w.heap.size + 1, 4, none⟩ = some (.int .i64 0) := (A1' 4 (by omega)).1
      have c2 : w1.frozen? ⟨w.heap.size + 1, 4, none⟩ = false := (A1' 4 (by omega)).2
      replace A0' := hid A0'
      replace A1' := hid A1'
      go_wp2
      go_roundw
      case rel => exact ⟨5, by omega, by go_num, hid (A0'.out.other (by simp)), hid (A1'.out.store (by omega) rfl (fun j hj => upto_next _ _ _ hj)), hB1.setCell (by simp) _, by simp [World.setCell]; omega⟩
      case measure => simp [intOf]
    by_cases hk5 : k = 5
    · subst hk5
      have c0 : wr.cell? ⟨w.heap.size, 5, none⟩ = some (.int .i64 14) := (A0.out 5 (by omega)).1
      go_wp2_with fail
      refine (B5.out _).mono ?_
      rintro e w1 ⟨rfl, hb1⟩
      have A1' := A1.out.below (by omega) hb1
      have A0' := A0.out.below (by omega) hb1
      have hB1 := hB0.trans (hb1.mono (by omega))
      have hs1 := hb1.size
      have c1 : w1.cell? ⟨w.heap.size + 1, 5, none⟩ = some (.int .i64 0) := (A1' 5 (by omega)).1
      have c2 : w1.frozen? ⟨w.heap.size + 1, 5, none⟩ = false := (A1' 5 (by omega)).2
      replace A0' := hid A0'
      replace A1' := hid A1'
      go_wp2
      go_roundw
      case rel => exact ⟨6, by omega, by go_num, hid (A0'.out.other (by simp)), hid (A1'.out.store (by omega) rfl (fun j hj => upto_next _ _ _ hj)), hB1.setCell (by simp) _, by simp [World.setCell]; omega⟩
      case measure => simp [intOf]
    obtain rfl : k = 6 := by omega
    have A := hid (upto_full _ A1.out)
    clear A0 A1
    rw [show ((6 : Nat) : Int) = (6 : Int) from rfl]
    go_wp2
    go_loopw [13] (fun i wz => ∃ k : Nat, k ≤ 3 ∧ i = .int .i64 k ∧ Hid (Arr wz (w.heap.size + 1) 6 (full [0, 1, 0, 1, 0, 1])) ∧ Below w.heap.size w wz ∧ w.heap.size + 2 ≤ wz.heap.size)
      (fun i _ => 3 - (intOf i).toNat)
    case atStart => exact ⟨0, by omega, rfl, A, hB0, hsz⟩
    case round =>
      clear A hB0 hsz
      obtain ⟨k, hk, rfl, A, hB0, hsz⟩ := hrel
      by_cases hk0 : k = 0
      · subst hk0
        have c0 := (A.out 0 (by omega)).1
        change _ = some (Value.int .i64 0) at c0
        go_wp2_with fail
        refine (U0.out _).mono ?_
        rintro e w1 ⟨rfl, hb1⟩
        have A' := A.out.below (by omega) hb1
        have hB1 := hB0.trans (hb1.mono (by omega))
        have hs1 := hb1.size
        have c1 := (A' 3 (by omega)).1
        change _ = some (Value.int .i64 1) at c1
        replace A' := hid A'
        go_wp2
        go_roundw
        case rel => exact ⟨1, by omega, by go_num, A', hB1, by omega⟩
        case measure => simp [intOf]
      by_cases hk1 : k = 1
      · subst hk1
        have c0 := (A.out 1 (by omega)).1
        change _ = some (Value.int .i64 1) at c0
        go_wp2_with fail
        refine (U1.out _).mono ?_
        rintro e w1 ⟨rfl, hb1⟩
        have A' := A.out.below (by omega) hb1
        have hB1 := hB0.trans (hb1.mono (by omega))
        have hs1 := hb1.size
        have c1 := (A' 4 (by omega)).1
        change _ = some (Value.int .i64 0) at c1
        replace A' := hid A'
        go_wp2
        go_roundw
        case rel => exact ⟨2, by omega, by go_num, A', hB1, by omega⟩
        case measure => simp [intOf]
      by_cases hk2 : k = 2
      · subst hk2
        have c0 := (A.out 2 (by omega)).1
        change _ = some (Value.int .i64 0) at c0
        go_wp2_with fail
        refine (U2.out _).mono ?_
        rintro e w1 ⟨rfl, hb1⟩
        have A' := A.out.below (by omega) hb1
        have hB1 := hB0.trans (hb1.mono (by omega))
        have hs1 := hb1.size
        have c1 := (A' 5 (by omega)).1
        change _ = some (Value.int .i64 1) at c1
        replace A' := hid A'
        go_wp2
        go_roundw
        case rel => exact ⟨3, by omega, by go_num, A', hB1, by omega⟩
        case measure => simp [intOf]
      obtain rfl : k = 3 := by omega
      have c0 := (A.out 0 (by omega)).1
      have c1 := (A.out 1 (by omega)).1
      have c2 := (A.out 2 (by omega)).1
      change _ = some (Value.int .i64 0) at c0
      change _ = some (Value.int .i64 1) at c1
      change _ = some (Value.int .i64 0) at c2
      go_wp2_with (go_at_call 14; refine (awake14 _).mono ?_; rintro e w4 ⟨rfl, hb4⟩)
      go_ret
      exact ⟨rfl, hB0.trans (hb4.mono (by omega))⟩

set_option maxHeartbeats 8000000 in
theorem cmp6gt (x y a b : Int) (ha : a = wr x) (hb : b = wr y) (h : b < a) (w : World) :
    Calls Try.prog 6 #[.int .i64 x, .int .i64 y] w fun e w' => e = .returned (.bool true) ∧ Below w.heap.size w w' := by
  have va : isV a = true := by rw [ha]; exact wr_isV _
  have vb : isV b = true := by rw [hb]; exact wr_isV _
  have C1 : ∀ W, Calls Try.prog 15 #[.int .i64 x] W fun e w' => e = .returned (.int .i64 a) ∧ W = w' := fun W => by rw [ha]; exact wrap15 x W
  have C2 : ∀ W, Calls Try.prog 15 #[.int .i64 y] W fun e w' => e = .returned (.int .i64 b) ∧ W = w' := fun W => by rw [hb]; exact wrap15 y W
  replace C1 := hid C1
  replace C2 := hid C2
  have B0 := hid (bin13at (show bin 13 a b = (0, 0, 0) from by rw [bin_cmp (by omega) (by omega) va vb]; simp [cmpOp, tr]; omega))
  have B1 := hid (bin13at (show bin 11 a b = (0, 0, 0) from by rw [bin_cmp (by omega) (by omega) va vb]; simp [cmpOp, tr]; omega))
  have B2 := hid (bin13at (show bin 15 a b = (1, 0, 0) from by rw [bin_cmp (by omega) (by omega) va vb]; simp [cmpOp, tr]; omega))
  have B3 := hid (bin13at (show bin 16 a b = (1, 0, 0) from by rw [bin_cmp (by omega) (by omega) va vb]; simp [cmpOp, tr]; omega))
  have B4 := hid (bin13at (show bin 12 a b = (1, 0, 0) from by rw [bin_cmp (by omega) (by omega) va vb]; simp [cmpOp, tr]; omega))
  have B5 := hid (bin13at (show bin 14 a b = (0, 0, 0) from by rw [bin_cmp (by omega) (by omega) va vb]; simp [cmpOp, tr]; omega))
  have U0 := hid (un16at (show un 6 0 = (1, 0) from by decide))
  have U1 := hid (un16at (show un 6 0 = (1, 0) from by decide))
  have U2 := hid (un16at (show un 6 1 = (0, 0) from by decide))
  clear ha hb va vb h
  go_enter Try.func6, Try.ntmps6
  go_wp2_with fail
  refine (C1.out _).mono ?_
  rintro e w1 ⟨rfl, rfl⟩
  go_wp2_with fail
  refine (C2.out _).mono ?_
  rintro e w1 ⟨rfl, rfl⟩
  go_wp2_with fail
  obtain ⟨W0, hW0⟩ : ∃ W0, W0 = ((w.alloc (.cells #[.int .i64 13, .int .i64 11, .int .i64 15, .int .i64 16, .int .i64 12, .int .i64 14] 37)).alloc (.cells #[.int .i64 0, .int .i64 0, .int .i64 0, .int .i64 0, .int .i64 0, .int .i64 0] 37)) := ⟨_, rfl⟩
  have A0 : Arr W0 w.heap.size 6 opsF := by
    intro j hj
    rw [hW0]
    match j, hj with
    | 0, _ => simp [opsF]
    | 1, _ => simp [opsF]
    | 2, _ => simp [opsF]
    | 3, _ => simp [opsF]
    | 4, _ => simp [opsF]
    | 5, _ => simp [opsF]
  have A1 : Arr W0 (w.heap.size + 1) 6 (upto [0, 0, 1, 1, 1, 0] 0) := by
    intro j hj
    rw [hW0]
    match j, hj with
    | 0, _ => simp [upto]
    | 1, _ => simp [upto]
    | 2, _ => simp [upto]
    | 3, _ => simp [upto]
    | 4, _ => simp [upto]
    | 5, _ => simp [upto]
  have hB0 : Below w.heap.size w W0 := by rw [hW0]; exact ((Below.refl _ _).alloc (Nat.le_refl _) _).alloc (by simp) _
  have hsz : w.heap.size + 2 ≤ W0.heap.size := by rw [hW0]; simp
  replace A0 := hid A0
  replace A1 := hid A1
  rw [← hW0]
  clear hW0
  go_loopw [9] (fun i wr => ∃ k : Nat, k ≤ 6 ∧ i = .int .i64 k ∧ Hid (Arr wr w.heap.size 6 opsF) ∧ Hid (Arr wr (w.heap.size + 1) 6 (upto [0, 0, 1, 1, 1, 0] k)) ∧ Below w.heap.size w wr ∧ w.heap.size + 2 ≤ wr.heap.size)
    (fun i _ => 6 - (intOf i).toNat)
  case atStart => exact ⟨0, by omega, rfl, A0, A1, hB0, hsz⟩
  case round =>
    clear A0 A1 hB0 hsz
    obtain ⟨k, hk, rfl, A0, A1, hB0, hsz⟩ := hrel
    by_cases hk0 : k = 0
    · subst hk0
      have c0 : wr.cell? ⟨w.heap.size, 0, none⟩ = some (.int .i64 13) := (A0.out 0 (by omega)).1
      go_wp2_with fail
      refine (B0.out _).mono ?_
      rintro e w1 ⟨rfl, hb1⟩
      have A1' := A1.out.below (by omega) hb1
      have A0' := A0.out.below (by omega) hb1
      have hB1 := hB0.trans (hb1.mono (by omega))
      have hs1 := hb1.size
      have c1 : w1.cell? ⟨w.heap.size + 1, 0, none⟩ = some (.int .i64 0) := (A1' 0 (by omega)).1
      have c2 : w1.frozen? ⟨w.heap.size + 1, 0, none⟩ = false := (A1' 0 (by omega)).2
      replace A0' := hid A0'
      replace A1' := hid A1'
      go_wp2
      go_roundw
      case rel => exact ⟨1, by omega, by go_num, hid (A0'.out.other (by simp)), hid (A1'.out.store (by omega) rfl (fun j hj => upto_next _ _ _ hj)), hB1.setCell (by simp) _, by simp [World.setCell]; omega⟩
      case measure => simp [intOf]
    by_cases hk1 : k = 1
    · subst hk1
      have c0 : wr.cell? ⟨w.heap.size, 1, none⟩ = some (.int .i64 11) := (A0.out 1 (by omega)).1
      go_wp2_with fail
      refine (B1.out _).mono ?_
      rintro e w1 ⟨rfl, hb1⟩
      have A1' := A1.out.below (by omega) hb1
      have A0' := A0.out.below (by omega) hb1
      have hB1 := hB0.trans (hb1.mono (by omega))
      have hs1 := hb1.size
      have c1 : w1.cell? ⟨w.heap.size + 1, 1, none⟩ = some (.int .i64 0) := (A1' 1 (by omega)).1
      have c2 : w1.frozen? ⟨w.heap.size + 1, 1, none⟩ = false := (A1' 1 (by omega)).2
      replace A0' := hid A0'
      replace A1' := hid A1'
      go_wp2
      go_roundw
      case rel => exact ⟨2, by omega, by go_num, hid (A0'.out.other (by simp)), hid (A1'.out.store (by omega) rfl (fun j hj => upto_next _ _ _ hj)), hB1.setCell (by simp) _, by simp [World.setCell]; omega⟩
      case measure => simp [intOf]
    by_cases hk2 : k = 2
    · subst hk2
      have c0 : wr.cell? ⟨w.heap.size, 2, none⟩ = some (.int .i64 15) := (A0.out 2 (by omega)).1
      go_wp2_with fail
      refine (B2.out _).mono ?_
      rintro e w1 ⟨rfl, hb1⟩
      have A1' := A1.out.below (by omega) hb1
      have A0' := A0.out.below (by omega) hb1
      have hB1 := hB0.trans (hb1.mono (by omega))
      have hs1 := hb1.size
      have c1 : w1.cell? ⟨w.heap.size + 1, 2, none⟩ = some (.int .i64 0) := (A1' 2 (by omega)).1
      have c2 : w1.frozen? ⟨w.heap.size + 1, 2, none⟩ = false := (A1' 2 (by omega)).2
      replace A0' := hid A0'
      replace A1' := hid A1'
      go_wp2
      go_roundw
      case rel => exact ⟨3, by omega, by go_num, hid (A0'.out.other (by simp)), hid (A1'.out.store (by omega) rfl (fun j hj => upto_next _ _ _ hj)), hB1.setCell (by simp) _, by simp [World.setCell]; omega⟩
      case measure => simp [intOf]
    by_cases hk3 : k = 3
    · subst hk3
      have c0 : wr.cell? ⟨w.heap.size, 3, none⟩ = some (.int .i64 16) := (A0.out 3 (by omega)).1
      go_wp2_with fail
      refine (B3.out _).mono ?_
      rintro e w1 ⟨rfl, hb1⟩
      have A1' := A1.out.below (by omega) hb1
      have A0' := A0.out.below (by omega) hb1
      have hB1 := hB0.trans (hb1.mono (by omega))
      have hs1 := hb1.size
      have c1 : w1.cell? ⟨w.heap.size + 1, 3, none⟩ = some (.int .i64 0) := (A1' 3 (by omega)).1
      have c2 : w1.frozen? ⟨w.heap.size + 1, 3, none⟩ = false := (A1' 3 (by omega)).2
      replace A0' := hid A0'
      replace A1' := hid A1'
      go_wp2
      go_roundw
      case rel => exact ⟨4, by omega, by go_num, hid (A0'.out.other (by simp)), hid (A1'.out.store (by omega) rfl (fun j hj => upto_next _ _ _ hj)), hB1.setCell (by simp) _, by simp [World.setCell]; omega⟩
      case measure => simp [intOf]
    by_cases hk4 : k = 4
    · subst hk4
      have c0 : wr.cell? ⟨w.heap.size, 4, none⟩ = some (.int .i64 12) := (A0.out 4 (by omega)).1
      go_wp2_with fail
      refine (B4.out _).mono ?_
      rintro e w1 ⟨rfl, hb1⟩
      have A1' := A1.out.below (by omega) hb1
      have A0' := A0.out.below (by omega) hb1
      have hB1 := hB0.trans (hb1.mono (by omega))
      have hs1 := hb1.size
      have c1 : w1.cell? ⟨w.heap.size + 1, 4, none⟩ = some (.int .i64 0) := (A1' 4 (by omega)).1
      have c2 : w1.frozen? ⟨w.heap.size + 1, 4, none⟩ = false := (A1' 4 (by omega)).2
      replace A0' := hid A0'
      replace A1' := hid A1'
      go_wp2
      go_roundw
      case rel => exact ⟨5, by omega, by go_num, hid (A0'.out.other (by simp)), hid (A1'.out.store (by omega) rfl (fun j hj => upto_next _ _ _ hj)), hB1.setCell (by simp) _, by simp [World.setCell]; omega⟩
      case measure => simp [intOf]
    by_cases hk5 : k = 5
    · subst hk5
      have c0 : wr.cell? ⟨w.heap.size, 5, none⟩ = some (.int .i64 14) := (A0.out 5 (by omega)).1
      go_wp2_with fail
      refine (B5.out _).mono ?_
      rintro e w1 ⟨rfl, hb1⟩
      have A1' := A1.out.below (by omega) hb1
      have A0' := A0.out.below (by omega) hb1
      have hB1 := hB0.trans (hb1.mono (by omega))
      have hs1 := hb1.size
      have c1 : w1.cell? ⟨w.heap.size + 1, 5, none⟩ = some (.int .i64 0) := (A1' 5 (by omega)).1
      have c2 : w1.frozen? ⟨w.heap.size + 1, 5, none⟩ = false := (A1' 5 (by omega)).2
      replace A0' := hid A0'
      replace A1' := hid A1'
      go_wp2
      go_roundw
      case rel => exact ⟨6, by omega, by go_num, hid (A0'.out.other (by simp)), hid (A1'.out.store (by omega) rfl (fun j hj => upto_next _ _ _ hj)), hB1.setCell (by simp) _, by simp [World.setCell]; omega⟩
      case measure => simp [intOf]
    obtain rfl : k = 6 := by omega
    have A := hid (upto_full _ A1.out)
    clear A0 A1
    rw [show ((6 : Nat) : Int) = (6 : Int) from rfl]
    go_wp2
    go_loopw [13] (fun i wz => ∃ k : Nat, k ≤ 3 ∧ i = .int .i64 k ∧ Hid (Arr wz (w.heap.size + 1) 6 (full [0, 0, 1, 1, 1, 0])) ∧ Below w.heap.size w wz ∧ w.heap.size + 2 ≤ wz.heap.size)
      (fun i _ => 3 - (intOf i).toNat)
    case atStart => exact ⟨0, by omega, rfl, A, hB0, hsz⟩
    case round =>
      clear A hB0 hsz
      obtain ⟨k, hk, rfl, A, hB0, hsz⟩ := hrel
      by_cases hk0 : k = 0
      · subst hk0
        have c0 := (A.out 0 (by omega)).1
        change _ = some (Value.int .i64 0) at c0
        go_wp2_with fail
        refine (U0.out _).mono ?_
        rintro e w1 ⟨rfl, hb1⟩
        have A' := A.out.below (by omega) hb1
        have hB1 := hB0.trans (hb1.mono (by omega))
        have hs1 := hb1.size
        have c1 := (A' 3 (by omega)).1
        change _ = some (Value.int .i64 1) at c1
        replace A' := hid A'
        go_wp2
        go_roundw
        case rel => exact ⟨1, by omega, by go_num, A', hB1, by omega⟩
        case measure => simp [intOf]
      by_cases hk1 : k = 1
      · subst hk1
        have c0 := (A.out 1 (by omega)).1
        change _ = some (Value.int .i64 0) at c0
        go_wp2_with fail
        refine (U1.out _).mono ?_
        rintro e w1 ⟨rfl, hb1⟩
        have A' := A.out.below (by omega) hb1
        have hB1 := hB0.trans (hb1.mono (by omega))
        have hs1 := hb1.size
        have c1 := (A' 4 (by omega)).1
        change _ = some (Value.int .i64 1) at c1
        replace A' := hid A'
        go_wp2
        go_roundw
        case rel => exact ⟨2, by omega, by go_num, A', hB1, by omega⟩
        case measure => simp [intOf]
      by_cases hk2 : k = 2
      · subst hk2
        have c0 := (A.out 2 (by omega)).1
        change _ = some (Value.int .i64 1) at c0
        go_wp2_with fail
        refine (U2.out _).mono ?_
        rintro e w1 ⟨rfl, hb1⟩
        have A' := A.out.below (by omega) hb1
        have hB1 := hB0.trans (hb1.mono (by omega))
        have hs1 := hb1.size
        have c1 := (A' 5 (by omega)).1
        change _ = some (Value.int .i64 0) at c1
        replace A' := hid A'
        go_wp2
        go_roundw
        case rel => exact ⟨3, by omega, by go_num, A', hB1, by omega⟩
        case measure => simp [intOf]
      obtain rfl : k = 3 := by omega
      have c0 := (A.out 0 (by omega)).1
      have c1 := (A.out 1 (by omega)).1
      have c2 := (A.out 2 (by omega)).1
      change _ = some (Value.int .i64 0) at c0
      change _ = some (Value.int .i64 0) at c1
      change _ = some (Value.int .i64 1) at c2
      go_wp2_with (go_at_call 14; refine (awake14 _).mono ?_; rintro e w4 ⟨rfl, hb4⟩)
      go_ret
      exact ⟨rfl, hB0.trans (hb4.mono (by omega))⟩

end Go.Proofs.Ytmkpoaapcghohaa
