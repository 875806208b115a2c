/- Contracts: eval.result; the reference's Unary and Binary (kinds). -/
import Derived.Test.YtmkpoaapcghohaaFoldQ
namespace Go.Proofs.Ytmkpoaapcghohaa
open Go.RowKit
def IntIs (v : Int) (w : World) (e : Ending) (w' : World) : Prop := e = .returned (.int .i64 v) ∧ w = w'
theorem IntIs.mk {v v' : Int} {w : World} (h : v' = v) : IntIs v w (.returned (.int .i64 v')) w := ⟨by rw [h], rfl⟩

set_option maxHeartbeats 4000000 in
theorem result51 (op k : Int) (h0 : 6 ≤ op) (h1 : op ≤ 21) (hk0 : 0 ≤ k) (hk : k ≤ 3) (w : World) : Calls Try.prog 51 #[.int .i64 op, .int .i64 k] w (IntIs (resF op k) w) := by
  have ho : op = 6 ∨ op = 7 ∨ op = 8 ∨ op = 9 ∨ op = 10 ∨ op = 11 ∨ op = 12 ∨ op = 13 ∨ op = 14 ∨ op = 15 ∨ op = 16 ∨ op = 17 ∨ op = 18 ∨ op = 19 ∨ op = 20 ∨ op = 21 := by omega
  have hc : k = 0 ∨ k = 1 ∨ k = 2 ∨ k = 3 := by omega
  clear h0 h1 hk hk0
  rcases ho with rfl | rfl | rfl | rfl | rfl | rfl | rfl | rfl | rfl | rfl | rfl | rfl | rfl | rfl | rfl | rfl <;> rcases hc with rfl | rfl | rfl | rfl
  all_goals
    go_enter Try.func51, Try.ntmps51
    go_wp2
    go_ret
    exact IntIs.mk (by decide)

set_option maxHeartbeats 1000000 in
theorem unary44 (op k : Int) (h0 : op = 6 ∨ op = 7) (hk0 : 1 ≤ k) (hk : k ≤ 3) (w : World) : Calls Try.prog 44 #[.int .i64 op, .int .i64 k] w (IntIs (rUnF op k) w) := by
  have hc : k = 1 ∨ k = 2 ∨ k = 3 := by omega
  clear hk hk0
  rcases h0 with rfl | rfl <;> rcases hc with rfl | rfl | rfl
  all_goals
    go_enter Try.func44, Try.ntmps44
    go_wp2
    go_ret
    exact IntIs.mk (by decide)

set_option maxHeartbeats 4000000 in
theorem binary46_ne (op a b : Int) (ha0 : 1 ≤ a) (ha : a ≤ 3) (hb0 : 1 ≤ b) (hb : b ≤ 3) (hn : a ≠ b) (w : World) : Calls Try.prog 46 #[.int .i64 op, .int .i64 a, .int .i64 b] w (IntIs 0 w) := by
  have hc : a = 1 ∨ a = 2 ∨ a = 3 := by omega
  have hd : b = 1 ∨ b = 2 ∨ b = 3 := by omega
  clear ha hb ha0 hb0
  rcases hc with rfl | rfl | rfl <;> rcases hd with rfl | rfl | rfl
  all_goals first
    | exact absurd rfl hn
    | (clear hn
       go_enter Try.func46, Try.ntmps46
       go_wp2
       go_ret
       exact IntIs.mk rfl)
set_option maxHeartbeats 4000000 in
theorem binary46_eq (op a : Int) (h0 : 8 ≤ op) (h1 : op ≤ 21) (ha0 : 1 ≤ a) (ha : a ≤ 3) (w : World) : Calls Try.prog 46 #[.int .i64 op, .int .i64 a, .int .i64 a] w (IntIs (rBinF op a a) w) := by
  have ho : op = 8 ∨ op = 9 ∨ op = 10 ∨ op = 11 ∨ op = 12 ∨ op = 13 ∨ op = 14 ∨ op = 15 ∨ op = 16 ∨ op = 17 ∨ op = 18 ∨ op = 19 ∨ op = 20 ∨ op = 21 := by omega
  have hc : a = 1 ∨ a = 2 ∨ a = 3 := by omega
  clear h0 h1 ha ha0
  rcases ho with rfl | rfl | rfl | rfl | rfl | rfl | rfl | rfl | rfl | rfl | rfl | rfl | rfl | rfl <;> rcases hc with rfl | rfl | rfl
  all_goals
    go_enter Try.func46, Try.ntmps46
    go_wp2
    go_ret
    exact IntIs.mk (by decide)
theorem binary46 (op a b : Int) (h0 : 8 ≤ op) (h1 : op ≤ 21) (ha0 : 1 ≤ a) (ha : a ≤ 3) (hb0 : 1 ≤ b) (hb : b ≤ 3) (w : World) : Calls Try.prog 46 #[.int .i64 op, .int .i64 a, .int .i64 b] w (IntIs (rBinF op a b) w) := by
  by_cases hn : a = b
  · subst hn; exact binary46_eq op a h0 h1 ha0 ha w
  · have e : rBinF op a b = 0 := by unfold rBinF; rw [if_pos (.inl hn)]
    rw [e]; exact binary46_ne op a b ha0 ha hb0 hb hn w
end Go.Proofs.Ytmkpoaapcghohaa
