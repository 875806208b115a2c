/- The standard functions by their names: std.Functions, winchref10.Kinds. -/
import Derived.Test.YtmkpoaapcghohaaLeafD
namespace Go.Proofs.Ytmkpoaapcghohaa
open Go.RowKit

/-- which standard function has a name: 0 to 7; 8: none -/
def nameK (s : ByteArray) : Nat :=
  if s.toList == [97, 98, 115] then 0 else if s.toList == [109, 105, 110] then 1 else if s.toList == [109, 97, 120] then 2 else if s.toList == [108, 105, 109, 105, 116] then 3 else if s.toList == [115, 101, 108] then 4 else if s.toList == [116, 111, 98, 111, 111, 108] then 5 else if s.toList == [116, 111, 105, 110, 116] then 6 else if s.toList == [116, 111, 116, 105, 109, 101] then 7 else 8
def kindsK : Nat → List Int
  | 0 => [2]
  | 1 => [2, 2]
  | 2 => [2, 2]
  | 3 => [2, 2, 2]
  | 4 => [1, 2, 2]
  | 5 => [2]
  | 6 => [3]
  | 7 => [2]
  | _ => []
def resK : Nat → Int
  | 0 => 2
  | 1 => 2
  | 2 => 2
  | 3 => 2
  | 4 => 2
  | 5 => 1
  | 6 => 2
  | 7 => 3
  | _ => 0
theorem nameK_le (s : ByteArray) : nameK s ≤ 8 := by unfold nameK; repeat' split
                                                     all_goals omega
theorem nameK_0 {s : ByteArray} (h : nameK s = 0) : (s.toList == [97, 98, 115]) = true := by
  unfold nameK at h
  cases h0 : (s.toList == [97, 98, 115])
  case false =>
    rw [h0, if_neg (by decide)] at h
    exfalso
    revert h
    repeat' split
    all_goals decide
  rfl
theorem nameK_1 {s : ByteArray} (h : nameK s = 1) : (s.toList == [97, 98, 115]) = false ∧ (s.toList == [109, 105, 110]) = true := by
  unfold nameK at h
  cases h0 : (s.toList == [97, 98, 115])
  case true => rw [h0, if_pos rfl] at h; exact absurd h (by decide)
  rw [h0, if_neg (by decide)] at h
  cases h1 : (s.toList == [109, 105, 110])
  case false =>
    rw [h1, if_neg (by decide)] at h
    exfalso
    revert h
    repeat' split
    all_goals decide
  exact ⟨rfl, rfl⟩
theorem nameK_2 {s : ByteArray} (h : nameK s = 2) : (s.toList == [97, 98, 115]) = false ∧ (s.toList == [109, 105, 110]) = false ∧ (s.toList == [109, 97, 120]) = true := by
  unfold nameK at h
  cases h0 : (s.toList == [97, 98, 115])
  case true => rw [h0, if_pos rfl] at h; exact absurd h (by decide)
  rw [h0, if_neg (by decide)] at h
  cases h1 : (s.toList == [109, 105, 110])
  case true => rw [h1, if_pos rfl] at h; exact absurd h (by decide)
  rw [h1, if_neg (by decide)] at h
  cases h2 : (s.toList == [109, 97, 120])
  case false =>
    rw [h2, if_neg (by decide)] at h
    exfalso
    revert h
    repeat' split
    all_goals decide
  exact ⟨rfl, rfl, rfl⟩
theorem nameK_3 {s : ByteArray} (h : nameK s = 3) : (s.toList == [97, 98, 115]) = false ∧ (s.toList == [109, 105, 110]) = false ∧ (s.toList == [109, 97, 120]) = false ∧ (s.toList == [108, 105, 109, 105, 116]) = true := by
  unfold nameK at h
  cases h0 : (s.toList == [97, 98, 115])
  case true => rw [h0, if_pos rfl] at h; exact absurd h (by decide)
  rw [h0, if_neg (by decide)] at h
  cases h1 : (s.toList == [109, 105, 110])
  case true => rw [h1, if_pos rfl] at h; exact absurd h (by decide)
  rw [h1, if_neg (by decide)] at h
  cases h2 : (s.toList == [109, 97, 120])
  case true => rw [h2, if_pos rfl] at h; exact absurd h (by decide)
  rw [h2, if_neg (by decide)] at h
  cases h3 : (s.toList == [108, 105, 109, 105, 116])
  case false =>
    rw [h3, if_neg (by decide)] at h
    exfalso
    revert h
    repeat' split
    all_goals decide
  exact ⟨rfl, rfl, rfl, rfl⟩
theorem nameK_4 {s : ByteArray} (h : nameK s = 4) : (s.toList == [97, 98, 115]) = false ∧ (s.toList == [109, 105, 110]) = false ∧ (s.toList == [109, 97, 120]) = false ∧ (s.toList == [108, 105, 109, 105, 116]) = false ∧ (s.toList == [115, 101, 108]) = true := by
  unfold nameK at h
  cases h0 : (s.toList == [97, 98, 115])
  case true => rw [h0, if_pos rfl] at h; exact absurd h (by decide)
  rw [h0, if_neg (by decide)] at h
  cases h1 : (s.toList == [109, 105, 110])
  case true => rw [h1, if_pos rfl] at h; exact absurd h (by decide)
  rw [h1, if_neg (by decide)] at h
  cases h2 : (s.toList == [109, 97, 120])
  case true => rw [h2, if_pos rfl] at h; exact absurd h (by decide)
  rw [h2, if_neg (by decide)] at h
  cases h3 : (s.toList == [108, 105, 109, 105, 116])
  case true => rw [h3, if_pos rfl] at h; exact absurd h (by decide)
  rw [h3, if_neg (by decide)] at h
  cases h4 : (s.toList == [115, 101, 108])
  case false =>
    rw [h4, if_neg (by decide)] at h
    exfalso
    revert h
    repeat' split
    all_goals decide
  exact ⟨rfl, rfl, rfl, rfl, rfl⟩
theorem nameK_5 {s : ByteArray} (h : nameK s = 5) : (s.toList == [97, 98, 115]) = false ∧ (s.toList == [109, 105, 110]) = false ∧ (s.toList == [109, 97, 120]) = false ∧ (s.toList == [108, 105, 109, 105, 116]) = false ∧ (s.toList == [115, 101, 108]) = false ∧ (s.toList == [116, 111, 98, 111, 111, 108]) = true := by
  unfold nameK at h
  cases h0 : (s.toList == [97, 98, 115])
  case true => rw [h0, if_pos rfl] at h; exact absurd h (by decide)
  rw [h0, if_neg (by decide)] at h
  cases h1 : (s.toList == [109, 105, 110])
  case true => rw [h1, if_pos rfl] at h; exact absurd h (by decide)
  rw [h1, if_neg (by decide)] at h
  cases h2 : (s.toList == [109, 97, 120])
  case true => rw [h2, if_pos rfl] at h; exact absurd h (by decide)
  rw [h2, if_neg (by decide)] at h
  cases h3 : (s.toList == [108, 105, 109, 105, 116])
  case true => rw [h3, if_pos rfl] at h; exact absurd h (by decide)
  rw [h3, if_neg (by decide)] at h
  cases h4 : (s.toList == [115, 101, 108])
  case true => rw [h4, if_pos rfl] at h; exact absurd h (by decide)
  rw [h4, if_neg (by decide)] at h
  cases h5 : (s.toList == [116, 111, 98, 111, 111, 108])
  case false =>
    rw [h5, if_neg (by decide)] at h
    exfalso
    revert h
    repeat' split
    all_goals decide
  exact ⟨rfl, rfl, rfl, rfl, rfl, rfl⟩
theorem nameK_6 {s : ByteArray} (h : nameK s = 6) : (s.toList == [97, 98, 115]) = false ∧ (s.toList == [109, 105, 110]) = false ∧ (s.toList == [109, 97, 120]) = false ∧ (s.toList == [108, 105, 109, 105, 116]) = false ∧ (s.toList == [115, 101, 108]) = false ∧ (s.toList == [116, 111, 98, 111, 111, 108]) = false ∧ (s.toList == [116, 111, 105, 110, 116]) = true := by
  unfold nameK at h
  cases h0 : (s.toList == [97, 98, 115])
  case true => rw [h0, if_pos rfl] at h; exact absurd h (by decide)
  rw [h0, if_neg (by decide)] at h
  cases h1 : (s.toList == [109, 105, 110])
  case true => rw [h1, if_pos rfl] at h; exact absurd h (by decide)
  rw [h1, if_neg (by decide)] at h
  cases h2 : (s.toList == [109, 97, 120])
  case true => rw [h2, if_pos rfl] at h; exact absurd h (by decide)
  rw [h2, if_neg (by decide)] at h
  cases h3 : (s.toList == [108, 105, 109, 105, 116])
  case true => rw [h3, if_pos rfl] at h; exact absurd h (by decide)
  rw [h3, if_neg (by decide)] at h
  cases h4 : (s.toList == [115, 101, 108])
  case true => rw [h4, if_pos rfl] at h; exact absurd h (by decide)
  rw [h4, if_neg (by decide)] at h
  cases h5 : (s.toList == [116, 111, 98, 111, 111, 108])
  case true => rw [h5, if_pos rfl] at h; exact absurd h (by decide)
  rw [h5, if_neg (by decide)] at h
  cases h6 : (s.toList == [116, 111, 105, 110, 116])
  case false =>
    rw [h6, if_neg (by decide)] at h
    exfalso
    revert h
    repeat' split
    all_goals decide
  exact ⟨rfl, rfl, rfl, rfl, rfl, rfl, rfl⟩
theorem nameK_7 {s : ByteArray} (h : nameK s = 7) : (s.toList == [97, 98, 115]) = false ∧ (s.toList == [109, 105, 110]) = false ∧ (s.toList == [109, 97, 120]) = false ∧ (s.toList == [108, 105, 109, 105, 116]) = false ∧ (s.toList == [115, 101, 108]) = false ∧ (s.toList == [116, 111, 98, 111, 111, 108]) = false ∧ (s.toList == [116, 111, 105, 110, 116]) = false ∧ (s.toList == [116, 111, 116, 105, 109, 101]) = true := by
  unfold nameK at h
  cases h0 : (s.toList == [97, 98, 115])
  case true => rw [h0, if_pos rfl] at h; exact absurd h (by decide)
  rw [h0, if_neg (by decide)] at h
  cases h1 : (s.toList == [109, 105, 110])
  case true => rw [h1, if_pos rfl] at h; exact absurd h (by decide)
  rw [h1, if_neg (by decide)] at h
  cases h2 : (s.toList == [109, 97, 120])
  case true => rw [h2, if_pos rfl] at h; exact absurd h (by decide)
  rw [h2, if_neg (by decide)] at h
  cases h3 : (s.toList == [108, 105, 109, 105, 116])
  case true => rw [h3, if_pos rfl] at h; exact absurd h (by decide)
  rw [h3, if_neg (by decide)] at h
  cases h4 : (s.toList == [115, 101, 108])
  case true => rw [h4, if_pos rfl] at h; exact absurd h (by decide)
  rw [h4, if_neg (by decide)] at h
  cases h5 : (s.toList == [116, 111, 98, 111, 111, 108])
  case true => rw [h5, if_pos rfl] at h; exact absurd h (by decide)
  rw [h5, if_neg (by decide)] at h
  cases h6 : (s.toList == [116, 111, 105, 110, 116])
  case true => rw [h6, if_pos rfl] at h; exact absurd h (by decide)
  rw [h6, if_neg (by decide)] at h
  cases h7 : (s.toList == [116, 111, 116, 105, 109, 101])
  case false =>
    rw [h7, if_neg (by decide)] at h
    exfalso
    revert h
    repeat' split
    all_goals decide
  exact ⟨rfl, rfl, rfl, rfl, rfl, rfl, rfl, rfl⟩
theorem nameK_8 {s : ByteArray} (h : nameK s = 8) : (s.toList == [97, 98, 115]) = false ∧ (s.toList == [109, 105, 110]) = false ∧ (s.toList == [109, 97, 120]) = false ∧ (s.toList == [108, 105, 109, 105, 116]) = false ∧ (s.toList == [115, 101, 108]) = false ∧ (s.toList == [116, 111, 98, 111, 111, 108]) = false ∧ (s.toList == [116, 111, 105, 110, 116]) = false ∧ (s.toList == [116, 111, 116, 105, 109, 101]) = false := by
  unfold nameK at h
  cases h0 : (s.toList == [97, 98, 115])
  case true => rw [h0, if_pos rfl] at h; exact absurd h (by decide)
  rw [h0, if_neg (by decide)] at h
  cases h1 : (s.toList == [109, 105, 110])
  case true => rw [h1, if_pos rfl] at h; exact absurd h (by decide)
  rw [h1, if_neg (by decide)] at h
  cases h2 : (s.toList == [109, 97, 120])
  case true => rw [h2, if_pos rfl] at h; exact absurd h (by decide)
  rw [h2, if_neg (by decide)] at h
  cases h3 : (s.toList == [108, 105, 109, 105, 116])
  case true => rw [h3, if_pos rfl] at h; exact absurd h (by decide)
  rw [h3, if_neg (by decide)] at h
  cases h4 : (s.toList == [115, 101, 108])
  case true => rw [h4, if_pos rfl] at h; exact absurd h (by decide)
  rw [h4, if_neg (by decide)] at h
  cases h5 : (s.toList == [116, 111, 98, 111, 111, 108])
  case true => rw [h5, if_pos rfl] at h; exact absurd h (by decide)
  rw [h5, if_neg (by decide)] at h
  cases h6 : (s.toList == [116, 111, 105, 110, 116])
  case true => rw [h6, if_pos rfl] at h; exact absurd h (by decide)
  rw [h6, if_neg (by decide)] at h
  cases h7 : (s.toList == [116, 111, 116, 105, 109, 101])
  case true => rw [h7, if_pos rfl] at h; exact absurd h (by decide)
  rw [h7, if_neg (by decide)] at h
  exact ⟨rfl, rfl, rfl, rfl, rfl, rfl, rfl, rfl⟩

def FnRes (n : Nat) (ks : List Int) (r : Int) (w : World) (e : Ending) (w' : World) : Prop :=
  ∃ b, e = .returned (.tuple #[.agg #[.slice (some ⟨b, 0, none⟩) n n, .int .i64 r], .bool true]) ∧ w.heap.size ≤ b ∧ b < w'.heap.size ∧
    (∀ i, i < n → w'.cell? ⟨b, i, none⟩ = some (.int .i64 (ks.getD i 0))) ∧ Below w.heap.size w w'
def KindsRes (n : Nat) (ks : List Int) (r : Int) (w : World) (e : Ending) (w' : World) : Prop :=
  ∃ b, e = .returned (.tuple #[.slice (some ⟨b, 0, none⟩) n n, .int .i64 r, .bool true]) ∧ w.heap.size ≤ b ∧ b < w'.heap.size ∧
    (∀ i, i < n → w'.cell? ⟨b, i, none⟩ = some (.int .i64 (ks.getD i 0))) ∧ Below w.heap.size w w'

set_option maxHeartbeats 1000000 in
theorem fn37_0 (s : ByteArray) (h : nameK s = 0) (w : World) : Calls Try.prog 37 #[.string s] w (FnRes 1 (kindsK 0) (resK 0) w) := by
  obtain h0 := nameK_0 h
  clear h
  go_enter Try.func37, Try.ntmps37
  go_wp2
  refine bodyPost_ret (v := .tuple #[.agg #[.slice (some ⟨w.heap.size + 1, 0, none⟩) 1 1, .int .i64 2], .bool true]) (by simp [results, Try.results37, go_sem]) rfl ⟨w.heap.size + 1, rfl, by omega, by simp, ?_, ?_⟩
  · intro i hi
    match i, hi with
    | 0, _ => simp [kindsK]
  · exact ((Below.refl _ _).alloc (Nat.le_refl _) _).alloc (by simp) _
set_option maxHeartbeats 1000000 in
theorem fn37_1 (s : ByteArray) (h : nameK s = 1) (w : World) : Calls Try.prog 37 #[.string s] w (FnRes 2 (kindsK 1) (resK 1) w) := by
  obtain ⟨h0, h1⟩ := nameK_1 h
  clear h
  go_enter Try.func37, Try.ntmps37
  go_wp2
  refine bodyPost_ret (v := .tuple #[.agg #[.slice (some ⟨w.heap.size + 1, 0, none⟩) 2 2, .int .i64 2], .bool true]) (by simp [results, Try.results37, go_sem]) rfl ⟨w.heap.size + 1, rfl, by omega, by simp, ?_, ?_⟩
  · intro i hi
    match i, hi with
    | 0, _ => simp [kindsK]
    | 1, _ => simp [kindsK]
  · exact ((Below.refl _ _).alloc (Nat.le_refl _) _).alloc (by simp) _
set_option maxHeartbeats 1000000 in
theorem fn37_2 (s : ByteArray) (h : nameK s = 2) (w : World) : Calls Try.prog 37 #[.string s] w (FnRes 2 (kindsK 2) (resK 2) w) := by
  obtain ⟨h0, h1, h2⟩ := nameK_2 h
  clear h
  go_enter Try.func37, Try.ntmps37
  go_wp2
  refine bodyPost_ret (v := .tuple #[.agg #[.slice (some ⟨w.heap.size + 1, 0, none⟩) 2 2, .int .i64 2], .bool true]) (by simp [results, Try.results37, go_sem]) rfl ⟨w.heap.size + 1, rfl, by omega, by simp, ?_, ?_⟩
  · intro i hi
    match i, hi with
    | 0, _ => simp [kindsK]
    | 1, _ => simp [kindsK]
  · exact ((Below.refl _ _).alloc (Nat.le_refl _) _).alloc (by simp) _
set_option maxHeartbeats 1000000 in
theorem fn37_3 (s : ByteArray) (h : nameK s = 3) (w : World) : Calls Try.prog 37 #[.string s] w (FnRes 3 (kindsK 3) (resK 3) w) := by
  obtain ⟨h0, h1, h2, h3⟩ := nameK_3 h
  clear h
  go_enter Try.func37, Try.ntmps37
  go_wp2
  refine bodyPost_ret (v := .tuple #[.agg #[.slice (some ⟨w.heap.size + 1, 0, none⟩) 3 3, .int .i64 2], .bool true]) (by simp [results, Try.results37, go_sem]) rfl ⟨w.heap.size + 1, rfl, by omega, by simp, ?_, ?_⟩
  · intro i hi
    match i, hi with
    | 0, _ => simp [kindsK]
    | 1, _ => simp [kindsK]
    | 2, _ => simp [kindsK]
  · exact ((Below.refl _ _).alloc (Nat.le_refl _) _).alloc (by simp) _
set_option maxHeartbeats 1000000 in
theorem fn37_4 (s : ByteArray) (h : nameK s = 4) (w : World) : Calls Try.prog 37 #[.string s] w (FnRes 3 (kindsK 4) (resK 4) w) := by
  obtain ⟨h0, h1, h2, h3, h4⟩ := nameK_4 h
  clear h
  go_enter Try.func37, Try.ntmps37
  go_wp2
  refine bodyPost_ret (v := .tuple #[.agg #[.slice (some ⟨w.heap.size + 1, 0, none⟩) 3 3, .int .i64 2], .bool true]) (by simp [results, Try.results37, go_sem]) rfl ⟨w.heap.size + 1, rfl, by omega, by simp, ?_, ?_⟩
  · intro i hi
    match i, hi with
    | 0, _ => simp [kindsK]
    | 1, _ => simp [kindsK]
    | 2, _ => simp [kindsK]
  · exact ((Below.refl _ _).alloc (Nat.le_refl _) _).alloc (by simp) _
set_option maxHeartbeats 1000000 in
theorem fn37_5 (s : ByteArray) (h : nameK s = 5) (w : World) : Calls Try.prog 37 #[.string s] w (FnRes 1 (kindsK 5) (resK 5) w) := by
  obtain ⟨h0, h1, h2, h3, h4, h5⟩ := nameK_5 h
  clear h
  go_enter Try.func37, Try.ntmps37
  go_wp2
  refine bodyPost_ret (v := .tuple #[.agg #[.slice (some ⟨w.heap.size + 1, 0, none⟩) 1 1, .int .i64 1], .bool true]) (by simp [results, Try.results37, go_sem]) rfl ⟨w.heap.size + 1, rfl, by omega, by simp, ?_, ?_⟩
  · intro i hi
    match i, hi with
    | 0, _ => simp [kindsK]
  · exact ((Below.refl _ _).alloc (Nat.le_refl _) _).alloc (by simp) _
set_option maxHeartbeats 1000000 in
theorem fn37_6 (s : ByteArray) (h : nameK s = 6) (w : World) : Calls Try.prog 37 #[.string s] w (FnRes 1 (kindsK 6) (resK 6) w) := by
  obtain ⟨h0, h1, h2, h3, h4, h5, h6⟩ := nameK_6 h
  clear h
  go_enter Try.func37, Try.ntmps37
  go_wp2
  refine bodyPost_ret (v := .tuple #[.agg #[.slice (some ⟨w.heap.size + 1, 0, none⟩) 1 1, .int .i64 2], .bool true]) (by simp [results, Try.results37, go_sem]) rfl ⟨w.heap.size + 1, rfl, by omega, by simp, ?_, ?_⟩
  · intro i hi
    match i, hi with
    | 0, _ => simp [kindsK]
  · exact ((Below.refl _ _).alloc (Nat.le_refl _) _).alloc (by simp) _
set_option maxHeartbeats 1000000 in
theorem fn37_7 (s : ByteArray) (h : nameK s = 7) (w : World) : Calls Try.prog 37 #[.string s] w (FnRes 1 (kindsK 7) (resK 7) w) := by
  obtain ⟨h0, h1, h2, h3, h4, h5, h6, h7⟩ := nameK_7 h
  clear h
  go_enter Try.func37, Try.ntmps37
  go_wp2
  refine bodyPost_ret (v := .tuple #[.agg #[.slice (some ⟨w.heap.size + 1, 0, none⟩) 1 1, .int .i64 3], .bool true]) (by simp [results, Try.results37, go_sem]) rfl ⟨w.heap.size + 1, rfl, by omega, by simp, ?_, ?_⟩
  · intro i hi
    match i, hi with
    | 0, _ => simp [kindsK]
  · exact ((Below.refl _ _).alloc (Nat.le_refl _) _).alloc (by simp) _
set_option maxHeartbeats 1000000 in
theorem fn37_8 (s : ByteArray) (h : nameK s = 8) (w : World) : Calls Try.prog 37 #[.string s] w fun e w' => e = .returned (.tuple #[.agg #[.slice none 0 0, .int .i64 0], .bool false]) ∧ Below w.heap.size w w' := by
  obtain ⟨h0, h1, h2, h3, h4, h5, h6, h7⟩ := nameK_8 h
  clear h
  go_enter Try.func37, Try.ntmps37
  go_wp2
  refine bodyPost_ret (v := .tuple #[.agg #[.slice none 0 0, .int .i64 0], .bool false]) (by simp [results, Try.results37, go_sem]) rfl ⟨rfl, ?_⟩
  exact (Below.refl _ _).alloc (Nat.le_refl _) _

end Go.Proofs.Ytmkpoaapcghohaa
