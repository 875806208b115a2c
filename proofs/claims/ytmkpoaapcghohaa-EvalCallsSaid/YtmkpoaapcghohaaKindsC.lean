/- Contracts: SameInts of two equal lists, the reference's Right. -/
import Derived.Test.YtmkpoaapcghohaaKindsB
import Derived.Test.YtmkpoaapcghohaaOps
namespace Go.Proofs.Ytmkpoaapcghohaa
open Go.RowKit

set_option maxHeartbeats 1000000 in
theorem same22 (g b n c1 c2 : Nat) (ks : List Int) (w : World) (hn : n ≤ 1000) (ha : ∀ i, i < n → w.cell? ⟨g, i, none⟩ = some (.int .i64 (ks.getD i 0))) (hb : ∀ i, i < n → w.cell? ⟨b, i, none⟩ = some (.int .i64 (ks.getD i 0))) :
    Calls Try.prog 22 #[.slice (some ⟨g, 0, none⟩) n c1, .slice (some ⟨b, 0, none⟩) n c2] w fun e w' => e = .returned (.bool true) ∧ ∃ d, w' = w.drewN d := by
  have HA := hid ha
  have HB := hid hb
  clear ha hb
  go_enter Try.func22, Try.ntmps22
  go_wp2
  go_loopw [5] (fun i wr => ∃ k : Nat, k ≤ n ∧ i = .int .i64 k ∧ ∃ d, wr = w.drewN d) (fun i _ => n - (intOf i).toNat)
  case atStart => exact ⟨0, Nat.zero_le _, rfl, 0, rfl⟩
  case round =>
    obtain ⟨k, hk, rfl, d, rfl⟩ := hrel
    by_cases hlt : k < n
    · have h1 := HA.out k hlt
      have h2 := HB.out k hlt
      generalize ks.getD k 0 = z at *
      have hq0 : (0 : Int) ≤ (k : Int) := by omega
      have hq1 : (k : Int) < (n : Int) := by omega
      go_wp2
      go_quiet (fail)
      go_wp2
      go_roundw
      case rel => exact ⟨k + 1, by omega, by go_num, _, rfl⟩
      case measure => simp [intOf]; omega
    · obtain rfl : k = n := by omega
      go_wp2
      go_ret
      exact ⟨rfl, _, rfl⟩

set_option maxHeartbeats 1000000 in
theorem right23len (A B : Option Addr) (m n c1 c2 : Nat) (w : World) (h : m ≠ n) :
    Calls Try.prog 23 #[.slice A m c1, .slice B n c2] w fun e w' => e = .returned (.bool false) ∧ w = w' := by
  have hne : ((m : Int) != (n : Int)) = true := by simp; omega
  clear h
  go_enter Try.func23, Try.ntmps23
  go_wp2
  go_ret
  exact ⟨rfl, rfl⟩

set_option maxHeartbeats 2000000 in
theorem right23 (b n c1 c2 : Nat) (a : Addr) (ks zs : List Int) (w : World) (hn : n ≤ 1000) (hk : ∀ i, i < n → w.cell? ⟨b, i, none⟩ = some (.int .i64 (ks.getD i 0))) (hz : Ints w a zs) (hzl : zs.length = n) :
    Calls Try.prog 23 #[.slice (some ⟨b, 0, none⟩) n c1, .slice (some a) n c2] w fun e w' => e = .returned (.bool (okArgs ks zs)) ∧ w = w' := by
  have HK := hid hk
  have HZ := hid hz
  have HZL := hid hzl
  generalize ho : okArgs ks zs = o
  have HO := hid ho
  clear hk hz hzl ho
  go_enter Try.func23, Try.ntmps23
  go_wp2
  go_loop [5] (fun i => ∃ k : Nat, k ≤ n ∧ i = .int .i64 k ∧ Hid (∀ i, i < k → okArg (ks.getD i 0) (zs.getD i 0) = true)) (fun i => n - (intOf i).toNat)
  case atStart => exact ⟨0, Nat.zero_le _, rfl, hid (fun i hi => absurd hi (by omega))⟩
  case round =>
    obtain ⟨k, hk, rfl, HU⟩ := hrel
    by_cases hlt : k < n
    · have hzk : k < zs.length := by have := HZL.out; omega
      have hcz : w.cell? (a.add k) = some (.int .i64 (zs.getD k 0)) := HZ.out.2 k hzk
      have hck : w.cell? ⟨b, k, none⟩ = some (.int .i64 (ks.getD k 0)) := HK.out k hlt
      have HZK := hid hzk
      clear hzk
      generalize hzv : zs.getD k 0 = z at *
      generalize hkv : ks.getD k 0 = kk at *
      have HZV := hid hzv
      have HKV := hid hkv
      clear hzv hkv
      cases hokz : okArg kk z
      · have hno : Hid (o = false) := hid (by rw [← HO.out]; exact okArgs_no (i := k) HZK.out (by rw [HZV.out, HKV.out]; exact hokz))
        rcases okArg_parts' hokz with hv | ⟨hv, hk1, hbit⟩
        · clear hokz
          go_wp2_with (first | (go_at_call 12; refine (isV12 _ _).mono ?_; rintro e w' ⟨rfl, rfl⟩) | (go_at_call 34; refine (bit34 _ _).mono ?_; rintro e w' ⟨rfl, rfl⟩))
          go_ret
          exact ⟨retBool hno.out.symm, rfl⟩
        · clear hokz
          go_wp2_with (first | (go_at_call 12; refine (isV12 _ _).mono ?_; rintro e w' ⟨rfl, rfl⟩) | (go_at_call 34; refine (bit34 _ _).mono ?_; rintro e w' ⟨rfl, rfl⟩))
          go_ret
          exact ⟨retBool hno.out.symm, rfl⟩
      · have HU' : Hid (∀ i, i < k + 1 → okArg (ks.getD i 0) (zs.getD i 0) = true) := by
          refine hid fun i hi => ?_
          by_cases hik : i < k
          · exact HU.out i hik
          · obtain rfl : i = k := by omega
            rw [HZV.out, HKV.out]; exact hokz
        obtain ⟨hv, hk1 | ⟨hk1, hbit⟩⟩ := okArg_parts hokz
        all_goals
          clear hokz
          go_wp2_with (first | (go_at_call 12; refine (isV12 _ _).mono ?_; rintro e w' ⟨rfl, rfl⟩) | (go_at_call 34; refine (bit34 _ _).mono ?_; rintro e w' ⟨rfl, rfl⟩))
          go_round
          case rel => exact ⟨k + 1, by omega, by go_num, HU'⟩
          case measure => simp [intOf]; omega
    · obtain rfl : k = n := by omega
      have hok : Hid (o = true) := hid (by rw [← HO.out]; exact okArgs_of (fun i hi => HU.out i (by have := HZL.out; omega)))
      go_wp2
      go_ret
      exact ⟨retBool hok.out.symm, rfl⟩
end Go.Proofs.Ytmkpoaapcghohaa
