/- The standard functions: eval.does, by name. -/
import Derived.Test.YtmkpoaapcghohaaLeafE
import Derived.Deep.QuietTactic
import Derived.BigQuiet
namespace Go.Proofs.Ytmkpoaapcghohaa
open Go.RowKit

theorem wrap10b (n : Int) (w : World) (h0 : -9223372036854775808 ≤ n) (h1 : n ≤ 9223372036854775807) :
    Calls Try.prog 10 #[.int .i64 n] w fun e w' => e = .returned (.int .i64 (wr n)) ∧ w' = w := (wrap10 n w h0 h1).mono fun _ _ h => ⟨h.1, h.2.symm⟩
def Quiet (v : Int) (w : World) (e : Ending) (w' : World) : Prop := e = .returned (.int .i64 v) ∧ ∃ d, w' = w.drewN d

theorem max_of {a b : Int} (h : a ≤ b) : max a b = b := by omega
theorem max_of' {a b : Int} (h : b ≤ a) : max a b = a := by omega
theorem min_of {a b : Int} (h : a ≤ b) : min a b = a := by omega
theorem min_of' {a b : Int} (h : b ≤ a) : min a b = b := by omega
theorem Quiet.mk {v v' : Int} {w : World} (h : v' = v) (d : Nat) : Quiet v w (.returned (.int .i64 v')) (w.drewN d) := ⟨by rw [h], d, rfl⟩
theorem Quiet.mk0 {v v' : Int} {w : World} (h : v' = v) : Quiet v w (.returned (.int .i64 v')) w := ⟨by rw [h], 0, rfl⟩

set_option maxHeartbeats 1000000 in
theorem does39_0 (s : ByteArray) (hs : nameK s = 0) (a : Addr) (c : Nat) (z0 : Int) (w : World) (h0 : w.cell? a = some (.int .i64 z0)) (hz : isV z0 = true) :
    Calls Try.prog 39 #[.string s, .slice (some a) 1 c] w (Quiet (wr (max z0 (-z0))) w) := by
  have t0 := nameK_0 hs
  obtain ⟨hb0, hb1⟩ := isV_iff.1 hz
  clear hz hs
  by_cases hm : z0 < -z0
  · have HM := hid (max_of (a := z0) (b := -z0) (by omega))
    go_enter Try.func39, Try.ntmps39
    go_wp2
    go_quiet ((go_at_call 10; exact Calls.quiet_of_same (wrap10b _ _ (by omega) (by omega))))
    go_wp2
    go_ret
    exact Quiet.mk (by rw [HM.out]) _
  · have HM := hid (max_of' (a := z0) (b := -z0) (by omega))
    go_enter Try.func39, Try.ntmps39
    go_wp2
    go_quiet ((go_at_call 10; exact Calls.quiet_of_same (wrap10b _ _ (by omega) (by omega))))
    go_wp2
    go_ret
    exact Quiet.mk (by rw [HM.out]) _

set_option maxHeartbeats 1000000 in
theorem does39_1 (s : ByteArray) (hs : nameK s = 1) (a : Addr) (c : Nat) (z0 z1 : Int) (w : World) (h0 : w.cell? a = some (.int .i64 z0)) (h1 : w.cell? ⟨a.block, a.off + 1, none⟩ = some (.int .i64 z1)) :
    Calls Try.prog 39 #[.string s, .slice (some a) 2 c] w (Quiet (min z0 z1) w) := by
  obtain ⟨t0, t1⟩ := nameK_1 hs
  clear hs
  by_cases hm : z1 < z0
  · have HM := hid (min_of' (a := z0) (b := z1) (by omega))
    go_enter Try.func39, Try.ntmps39
    go_wp2
    go_quiet (fail)
    go_wp2
    go_ret
    exact Quiet.mk HM.out.symm _
  · have HM := hid (min_of (a := z0) (b := z1) (by omega))
    go_enter Try.func39, Try.ntmps39
    go_wp2
    go_quiet (fail)
    go_wp2
    go_ret
    exact Quiet.mk HM.out.symm _

set_option maxHeartbeats 1000000 in
theorem does39_2 (s : ByteArray) (hs : nameK s = 2) (a : Addr) (c : Nat) (z0 z1 : Int) (w : World) (h0 : w.cell? a = some (.int .i64 z0)) (h1 : w.cell? ⟨a.block, a.off + 1, none⟩ = some (.int .i64 z1)) :
    Calls Try.prog 39 #[.string s, .slice (some a) 2 c] w (Quiet (max z0 z1) w) := by
  obtain ⟨t0, t1, t2⟩ := nameK_2 hs
  clear hs
  by_cases hm : z0 < z1
  · have HM := hid (max_of (a := z0) (b := z1) (by omega))
    go_enter Try.func39, Try.ntmps39
    go_wp2
    go_quiet (fail)
    go_wp2
    go_ret
    exact Quiet.mk HM.out.symm _
  · have HM := hid (max_of' (a := z0) (b := z1) (by omega))
    go_enter Try.func39, Try.ntmps39
    go_wp2
    go_quiet (fail)
    go_wp2
    go_ret
    exact Quiet.mk HM.out.symm _

set_option maxHeartbeats 1000000 in
theorem does39_3 (s : ByteArray) (hs : nameK s = 3) (a : Addr) (c : Nat) (z0 z1 z2 : Int) (w : World) (h0 : w.cell? a = some (.int .i64 z0)) (h1 : w.cell? ⟨a.block, a.off + 1, none⟩ = some (.int .i64 z1)) (h2 : w.cell? ⟨a.block, a.off + 2, none⟩ = some (.int .i64 z2)) :
    Calls Try.prog 39 #[.string s, .slice (some a) 3 c] w (Quiet (min (max z1 z0) z2) w) := by
  obtain ⟨t0, t1, t2, t3⟩ := nameK_3 hs
  clear hs
  by_cases hm : z1 < z0 <;> by_cases hk : z2 < (if z1 < z0 then z0 else z1)
  · rw [if_pos hm] at hk
    have HM : Hid (min (max z1 z0) z2 = z2) := hid (by omega)
    go_enter Try.func39, Try.ntmps39
    go_wp2
    go_quiet (fail)
    go_wp2
    go_ret
    exact Quiet.mk HM.out.symm _
  · rw [if_pos hm] at hk
    have HM : Hid (min (max z1 z0) z2 = z0) := hid (by omega)
    go_enter Try.func39, Try.ntmps39
    go_wp2
    go_quiet (fail)
    go_wp2
    go_ret
    exact Quiet.mk HM.out.symm _
  · rw [if_neg hm] at hk
    have HM : Hid (min (max z1 z0) z2 = z2) := hid (by omega)
    go_enter Try.func39, Try.ntmps39
    go_wp2
    go_quiet (fail)
    go_wp2
    go_ret
    exact Quiet.mk HM.out.symm _
  · rw [if_neg hm] at hk
    have HM : Hid (min (max z1 z0) z2 = z1) := hid (by omega)
    go_enter Try.func39, Try.ntmps39
    go_wp2
    go_quiet (fail)
    go_wp2
    go_ret
    exact Quiet.mk HM.out.symm _

set_option maxHeartbeats 1000000 in
theorem does39_4 (s : ByteArray) (hs : nameK s = 4) (a : Addr) (c : Nat) (z0 z1 z2 : Int) (w : World) (hz : bit z0 = true) (h0 : w.cell? a = some (.int .i64 z0)) (h1 : w.cell? ⟨a.block, a.off + 1, none⟩ = some (.int .i64 z1)) (h2 : w.cell? ⟨a.block, a.off + 2, none⟩ = some (.int .i64 z2)) :
    Calls Try.prog 39 #[.string s, .slice (some a) 3 c] w (Quiet (if z0 = 0 then z1 else z2) w) := by
  obtain ⟨t0, t1, t2, t3, t4⟩ := nameK_4 hs
  clear hs
  rcases bit_iff.1 hz with rfl | rfl
  · clear hz
    go_enter Try.func39, Try.ntmps39
    go_wp2
    go_ret
    exact Quiet.mk0 rfl
  · clear hz
    go_enter Try.func39, Try.ntmps39
    go_wp2
    go_ret
    exact Quiet.mk0 rfl

set_option maxHeartbeats 1000000 in
theorem does39_5 (s : ByteArray) (hs : nameK s = 5) (a : Addr) (c : Nat) (z0 : Int) (w : World) (h0 : w.cell? a = some (.int .i64 z0)) :
    Calls Try.prog 39 #[.string s, .slice (some a) 1 c] w (Quiet (tr (z0 != 0)) w) := by
  obtain ⟨t0, t1, t2, t3, t4, t5⟩ := nameK_5 hs
  clear hs
  go_enter Try.func39, Try.ntmps39
  go_wp2_with (go_at_call 48; refine (truth48 _ _).mono ?_; rintro e w' ⟨rfl, rfl⟩)
  go_ret
  exact Quiet.mk0 rfl

set_option maxHeartbeats 1000000 in
theorem does39_6 (s : ByteArray) (hs : nameK s = 6) (a : Addr) (c : Nat) (z0 : Int) (w : World) (h0 : w.cell? a = some (.int .i64 z0)) :
    Calls Try.prog 39 #[.string s, .slice (some a) 1 c] w (Quiet z0 w) := by
  obtain ⟨t0, t1, t2, t3, t4, t5, t6⟩ := nameK_6 hs
  clear hs
  go_enter Try.func39, Try.ntmps39
  go_wp2
  go_ret
  exact Quiet.mk0 rfl

set_option maxHeartbeats 1000000 in
theorem does39_7 (s : ByteArray) (hs : nameK s = 7) (a : Addr) (c : Nat) (z0 : Int) (w : World) (h0 : w.cell? a = some (.int .i64 z0)) :
    Calls Try.prog 39 #[.string s, .slice (some a) 1 c] w (Quiet (max 0 z0) w) := by
  obtain ⟨t0, t1, t2, t3, t4, t5, t6, t7⟩ := nameK_7 hs
  clear hs
  by_cases hm : 0 < z0
  · have HM := hid (max_of (a := 0) (b := z0) (by omega))
    go_enter Try.func39, Try.ntmps39
    go_wp2
    go_ret
    exact Quiet.mk0 HM.out.symm
  · have HM := hid (max_of' (a := 0) (b := z0) (by omega))
    go_enter Try.func39, Try.ntmps39
    go_wp2
    go_ret
    exact Quiet.mk0 HM.out.symm
end Go.Proofs.Ytmkpoaapcghohaa
