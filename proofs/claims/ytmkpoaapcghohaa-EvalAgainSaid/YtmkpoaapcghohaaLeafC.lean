/- Contracts: are all numbers 0 or 1; operators of one and of two operands. -/
import Derived.Test.YtmkpoaapcghohaaLeafB
namespace Go.Proofs.Ytmkpoaapcghohaa
open Go.RowKit

/-- is a number 0 or 1? -/
def bit (n : Int) : Bool := decide (n = 0 ∨ n = 1)
theorem bit_iff {n : Int} : bit n = true ↔ (n = 0 ∨ n = 1) := by simp [bit]
/-- are two numbers 0 or 1? -/
def bit2 (v x : Int) : Bool := bit v && bit x
theorem bit_no {n : Int} (h0 : n ≠ 0) (h1 : n ≠ 1) : bit n = false := by simp [bit, h0, h1]

set_option maxHeartbeats 1000000 in
theorem truth31one (v : Int) (w : World) (b : Nat) (hc : w.cell? ⟨b, 0, none⟩ = some (.int .i64 v)) :
    Calls Try.prog 31 #[.slice (some ⟨b, 0, none⟩) 1 1] w fun e w' => e = .returned (.bool (bit v)) ∧ w = w' := by
  by_cases v0 : v = 0
  · subst v0
    go_enter Try.func31, Try.ntmps31
    go_wp2
    go_loop [7] (fun i => ∃ k : Nat, k ≤ 1 ∧ i = .int .i64 k) (fun i => 1 - (intOf i).toNat)
    case atStart => exact ⟨0, by omega, rfl⟩
    case round =>
      obtain ⟨k, hk, rfl⟩ := hrel
      by_cases h0 : k = 0
      · subst h0
        go_wp2
        go_round
        case rel => exact ⟨1, by omega, by go_num⟩
        case measure => simp [intOf]
      obtain rfl : k = 1 := by omega
      go_wp2
      go_ret
      exact ⟨rfl, rfl⟩
  by_cases v1 : v = 1
  · subst v1
    go_enter Try.func31, Try.ntmps31
    go_wp2
    go_loop [7] (fun i => ∃ k : Nat, k ≤ 1 ∧ i = .int .i64 k) (fun i => 1 - (intOf i).toNat)
    case atStart => exact ⟨0, by omega, rfl⟩
    case round =>
      obtain ⟨k, hk, rfl⟩ := hrel
      by_cases h0 : k = 0
      · subst h0
        go_wp2
        go_round
        case rel => exact ⟨1, by omega, by go_num⟩
        case measure => simp [intOf]
      obtain rfl : k = 1 := by omega
      go_wp2
      go_ret
      exact ⟨rfl, rfl⟩
  · have HB := hid (bit_no v0 v1)
    have c0 : (v != 0) = true := by simpa using v0
    have c1 : (v != 1) = true := by simpa using v1
    go_enter Try.func31, Try.ntmps31
    go_wp2
    go_loop [7] (fun i => ∃ k : Nat, k ≤ 0 ∧ i = .int .i64 k) (fun i => 1 - (intOf i).toNat)
    case atStart => exact ⟨0, by omega, rfl⟩
    case round =>
      obtain ⟨k, hk, rfl⟩ := hrel
      obtain rfl : k = 0 := by omega
      go_wp2
      go_ret
      exact ⟨retBool HB.out.symm, rfl⟩

theorem and_no (v x : Int) (h : bit x = false) : bit2 v x = false := by unfold bit2; rw [h]; cases bit v <;> rfl
theorem and_no' (v x : Int) (h : bit v = false) : bit2 v x = false := by unfold bit2; rw [h]; rfl
set_option maxHeartbeats 2000000 in
theorem truth31two (v x : Int) (w : World) (b : Nat) (hc : w.cell? ⟨b, 0, none⟩ = some (.int .i64 v)) (hc1 : w.cell? ⟨b, 1, none⟩ = some (.int .i64 x)) :
    Calls Try.prog 31 #[.slice (some ⟨b, 0, none⟩) 2 2] w fun e w' => e = .returned (.bool (bit2 v x)) ∧ w = w' := by
  by_cases hv : v = 0 ∨ v = 1
  · by_cases hx : x = 0 ∨ x = 1
    · rcases hv with rfl | rfl <;> rcases hx with rfl | rfl
      · go_enter Try.func31, Try.ntmps31
        go_wp2
        go_loop [7] (fun i => ∃ k : Nat, k ≤ 2 ∧ i = .int .i64 k) (fun i => 2 - (intOf i).toNat)
        case atStart => exact ⟨0, by omega, rfl⟩
        case round =>
          obtain ⟨k, hk, rfl⟩ := hrel
          by_cases h0 : k = 0
          · subst h0
            go_wp2
            go_round
            case rel => exact ⟨1, by omega, by go_num⟩
            case measure => simp [intOf]
          by_cases h1 : k = 1
          · subst h1
            go_wp2
            go_round
            case rel => exact ⟨2, by omega, by go_num⟩
            case measure => simp [intOf]
          obtain rfl : k = 2 := by omega
          go_wp2
          go_ret
          exact ⟨rfl, rfl⟩
      · go_enter Try.func31, Try.ntmps31
        go_wp2
        go_loop [7] (fun i => ∃ k : Nat, k ≤ 2 ∧ i = .int .i64 k) (fun i => 2 - (intOf i).toNat)
        case atStart => exact ⟨0, by omega, rfl⟩
        case round =>
          obtain ⟨k, hk, rfl⟩ := hrel
          by_cases h0 : k = 0
          · subst h0
            go_wp2
            go_round
            case rel => exact ⟨1, by omega, by go_num⟩
            case measure => simp [intOf]
          by_cases h1 : k = 1
          · subst h1
            go_wp2
            go_round
            case rel => exact ⟨2, by omega, by go_num⟩
            case measure => simp [intOf]
          obtain rfl : k = 2 := by omega
          go_wp2
          go_ret
          exact ⟨rfl, rfl⟩
      · go_enter Try.func31, Try.ntmps31
        go_wp2
        go_loop [7] (fun i => ∃ k : Nat, k ≤ 2 ∧ i = .int .i64 k) (fun i => 2 - (intOf i).toNat)
        case atStart => exact ⟨0, by omega, rfl⟩
        case round =>
          obtain ⟨k, hk, rfl⟩ := hrel
          by_cases h0 : k = 0
          · subst h0
            go_wp2
            go_round
            case rel => exact ⟨1, by omega, by go_num⟩
            case measure => simp [intOf]
          by_cases h1 : k = 1
          · subst h1
            go_wp2
            go_round
            case rel => exact ⟨2, by omega, by go_num⟩
            case measure => simp [intOf]
          obtain rfl : k = 2 := by omega
          go_wp2
          go_ret
          exact ⟨rfl, rfl⟩
      · go_enter Try.func31, Try.ntmps31
        go_wp2
        go_loop [7] (fun i => ∃ k : Nat, k ≤ 2 ∧ i = .int .i64 k) (fun i => 2 - (intOf i).toNat)
        case atStart => exact ⟨0, by omega, rfl⟩
        case round =>
          obtain ⟨k, hk, rfl⟩ := hrel
          by_cases h0 : k = 0
          · subst h0
            go_wp2
            go_round
            case rel => exact ⟨1, by omega, by go_num⟩
            case measure => simp [intOf]
          by_cases h1 : k = 1
          · subst h1
            go_wp2
            go_round
            case rel => exact ⟨2, by omega, by go_num⟩
            case measure => simp [intOf]
          obtain rfl : k = 2 := by omega
          go_wp2
          go_ret
          exact ⟨rfl, rfl⟩
    · have x0 : x ≠ 0 := fun h => hx (.inl h)
      have x1 : x ≠ 1 := fun h => hx (.inr h)
      have HB := hid (and_no v x (bit_no x0 x1))
      have c0 : (x != 0) = true := by simpa using x0
      have c1 : (x != 1) = true := by simpa using x1
      clear x0 x1 hx
      rcases hv with rfl | rfl
      · go_enter Try.func31, Try.ntmps31
        go_wp2
        go_loop [7] (fun i => ∃ k : Nat, k ≤ 1 ∧ i = .int .i64 k) (fun i => 2 - (intOf i).toNat)
        case atStart => exact ⟨0, by omega, rfl⟩
        case round =>
          obtain ⟨k, hk, rfl⟩ := hrel
          by_cases h0 : k = 0
          · subst h0
            go_wp2
            go_round
            case rel => exact ⟨1, by omega, by go_num⟩
            case measure => simp [intOf]
          obtain rfl : k = 1 := by omega
          go_wp2
          go_ret
          exact ⟨retBool HB.out.symm, rfl⟩
      · go_enter Try.func31, Try.ntmps31
        go_wp2
        go_loop [7] (fun i => ∃ k : Nat, k ≤ 1 ∧ i = .int .i64 k) (fun i => 2 - (intOf i).toNat)
        case atStart => exact ⟨0, by omega, rfl⟩
        case round =>
          obtain ⟨k, hk, rfl⟩ := hrel
          by_cases h0 : k = 0
          · subst h0
            go_wp2
            go_round
            case rel => exact ⟨1, by omega, by go_num⟩
            case measure => simp [intOf]
          obtain rfl : k = 1 := by omega
          go_wp2
          go_ret
          exact ⟨retBool HB.out.symm, rfl⟩
  · have v0 : v ≠ 0 := fun h => hv (.inl h)
    have v1 : v ≠ 1 := fun h => hv (.inr h)
    have HB := hid (and_no' v x (bit_no v0 v1))
    have c0 : (v != 0) = true := by simpa using v0
    have c1 : (v != 1) = true := by simpa using v1
    clear v0 v1 hv
    go_enter Try.func31, Try.ntmps31
    go_wp2
    go_loop [7] (fun i => ∃ k : Nat, k ≤ 0 ∧ i = .int .i64 k) (fun i => 2 - (intOf i).toNat)
    case atStart => exact ⟨0, by omega, rfl⟩
    case round =>
      obtain ⟨k, hk, rfl⟩ := hrel
      obtain rfl : k = 0 := by omega
      go_wp2
      go_ret
      exact ⟨retBool HB.out.symm, rfl⟩

/-- result, fault, error -/
def logicOp (op v x : Int) : Int := if op = 8 then (if v = 1 ∨ x = 1 then 1 else 0) else if op = 9 then (if v = x then 0 else 1) else (if v = 1 ∧ x = 1 then 1 else 0)
def bin (op v x : Int) : Int × Int × Int :=
  if 8 ≤ op ∧ op ≤ 10 then (if bit2 v x then (logicOp op v x, 0, 0) else (0, 0, 2))
  else if !isV v || !isV x then (0, 0, 2)
  else if 11 ≤ op ∧ op ≤ 16 then (cmpOp op v x, 0, 0)
  else if (numb op v x).2.2 then ((numb op v x).1, (numb op v x).2.1, 0) else (0, 0, 2)

def BinSays (op v x : Int) (w : World) (e : Ending) (w' : World) : Prop :=
  e = .returned (.tuple #[.int .i64 (bin op v x).1, .int .i64 (bin op v x).2.1, .int .i64 (bin op v x).2.2]) ∧ Below w.heap.size w w'
theorem BinSays.mk {op v x r f g : Int} {w w' : World} (h : bin op v x = (r, f, g)) (hb : Below w.heap.size w w') : BinSays op v x w (.returned (.tuple #[.int .i64 r, .int .i64 f, .int .i64 g])) w' := by
  unfold BinSays; rw [h]; exact ⟨rfl, hb⟩

end Go.Proofs.Ytmkpoaapcghohaa
