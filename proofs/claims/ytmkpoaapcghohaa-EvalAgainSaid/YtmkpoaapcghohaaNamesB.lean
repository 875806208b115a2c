/- Contracts: IsName of both texts. -/
import Derived.Test.YtmkpoaapcghohaaNames
namespace Go.Proofs.Ytmkpoaapcghohaa
open Go.RowKit

/-- only letters, digits and '_', a letter first -/
def RunP (s : ByteArray) : Prop := (∀ k (h : k < s.size), partI (s[k].toNat : Int) = true) ∧ ∃ h : 0 < s.size, letI' (s[0].toNat : Int) = true
noncomputable def runB (s : ByteArray) : Bool := @decide (RunP s) (Classical.propDecidable _)
theorem runB_true {s : ByteArray} (h : RunP s) : runB s = true := by unfold runB; exact @decide_eq_true _ (Classical.propDecidable _) h
theorem runB_false {s : ByteArray} (h : ¬ RunP s) : runB s = false := by unfold runB; exact @decide_eq_false _ (Classical.propDecidable _) h
theorem toList_nil {s : ByteArray} : s.toList = [] ↔ s.size = 0 := by
  rw [ByteArray.toList_eq]
  constructor
  · intro h
    have : s.data.toList.length = 0 := by rw [h]; rfl
    simpa using this
  · intro h
    have : s.data.toList.length = 0 := by simpa using h
    exact List.length_eq_zero_iff.1 this

set_option maxHeartbeats 1000000 in
theorem run68 (s : ByteArray) (w : World) (hs : s.size ≤ maxLen) : Calls Try.prog 68 #[.string s] w fun e w' => e = .returned (.bool (runB s)) ∧ w = w' := by
  unfold maxLen at hs
  generalize hr : runB s = r
  have HR := hid hr
  clear hr
  go_enter Try.func68, Try.ntmps68
  go_wp2
  go_loop [6] (fun i => ∃ k : Nat, k ≤ s.size ∧ i = .int .i64 k ∧ Hid (∀ j (h : j < s.size), j < k → partI (s[j].toNat : Int) = true)) (fun i => s.size - (intOf i).toNat)
  case atStart => exact ⟨0, Nat.zero_le _, rfl, hid (fun j _ hj => absurd hj (by omega))⟩
  case round =>
    obtain ⟨k, hk, rfl, HU⟩ := hrel
    by_cases hlt : k < s.size
    · cases hp : partI (s[k].toNat : Int)
      · have HT : Hid (r = false) := hid (HR.out.symm.trans (runB_false (fun h => by rw [h.1 k hlt] at hp; cases hp)))
        go_wp2_with (go_at_call 70; refine (part70 _ _).mono ?_; rintro e w' ⟨rfl, rfl⟩)
        go_ret
        exact ⟨retBool HT.out.symm, rfl⟩
      · have HU' : Hid (∀ j (h : j < s.size), j < k + 1 → partI (s[j].toNat : Int) = true) := hid (fun j h hj => by
          by_cases hjk : j < k
          · exact HU.out j h hjk
          · obtain rfl : j = k := by omega
            exact hp)
        go_wp2_with (go_at_call 70; refine (part70 _ _).mono ?_; rintro e w' ⟨rfl, rfl⟩)
        go_round
        case rel => exact ⟨k + 1, by omega, by go_num, HU'⟩
        case measure => simp [intOf]; omega
    · obtain rfl : k = s.size := by omega
      by_cases h0 : 0 < s.size
      · have hne : ¬ s.toList = [] := by rw [toList_nil]; omega
        have hne2 : s.toList.isEmpty = false := by simp [hne]
        cases hl : letI' (s[0].toNat : Int)
        · have HT : Hid (r = false) := hid (HR.out.symm.trans (runB_false (fun h => by obtain ⟨_, h2⟩ := h.2; rw [h2] at hl; cases hl)))
          go_wp2_with (go_at_call 71; refine (letter71 _ _).mono ?_; rintro e w' ⟨rfl, rfl⟩)
          go_ret
          exact ⟨retBool HT.out.symm, rfl⟩
        · have HT : Hid (r = true) := hid (HR.out.symm.trans (runB_true ⟨fun j h => HU.out j h h, h0, hl⟩))
          go_wp2_with (go_at_call 71; refine (letter71 _ _).mono ?_; rintro e w' ⟨rfl, rfl⟩)
          go_ret
          exact ⟨retBool HT.out.symm, rfl⟩
      · have hne : s.toList = [] := by rw [toList_nil]; omega
        have HT : Hid (r = false) := hid (HR.out.symm.trans (runB_false (fun h => by obtain ⟨h1, _⟩ := h.2; omega)))
        go_wp2
        go_ret
        exact ⟨retBool HT.out.symm, rfl⟩

/-- a name -/
noncomputable def nameB (s : ByteArray) : Bool := runB s && decide (s.size ≤ 12) && !isWord s.toList

set_option maxHeartbeats 1000000 in
theorem name65 (s : ByteArray) (w : World) (hs : s.size ≤ maxLen) : Calls Try.prog 65 #[.string s] w fun e w' => e = .returned (.bool (nameB s)) ∧ w = w' := by
  have hm : (s.size : Int) ≤ 9223372036854775807 := by unfold maxLen at hs; omega
  generalize hr : nameB s = r
  have HR := hid hr
  unfold nameB at hr
  have C68 := fun W => hid (run68 s W hs)
  have C69 := fun W => hid (word69 s W)
  generalize runB s = t at *
  generalize isWord s.toList = u at *
  by_cases h12 : s.size ≤ 12
  · rw [decide_eq_true h12] at hr
    have h12' : (s.size : Int) ≤ 12 := by omega
    cases t <;> cases u <;> (simp at hr; subst hr; clear hs)
    all_goals
      go_enter Try.func65, Try.ntmps65
      go_wp2_with (first | (go_at_call 68; refine (C68 _).out.mono ?_; rintro e w' ⟨rfl, rfl⟩) | (go_at_call 69; refine (C69 _).out.mono ?_; rintro e w' ⟨rfl, rfl⟩))
      go_ret
      exact ⟨rfl, rfl⟩
  · rw [decide_eq_false h12] at hr
    have h12' : ¬ (s.size : Int) ≤ 12 := by omega
    cases t <;> (simp at hr; subst hr; clear hs)
    all_goals
      go_enter Try.func65, Try.ntmps65
      go_wp2_with (first | (go_at_call 68; refine (C68 _).out.mono ?_; rintro e w' ⟨rfl, rfl⟩) | (go_at_call 69; refine (C69 _).out.mono ?_; rintro e w' ⟨rfl, rfl⟩))
      go_ret
      exact ⟨rfl, rfl⟩

theorem nameB_no {s : ByteArray} (h : ¬ RunP s) : nameB s = false := by unfold nameB; rw [runB_false h]; rfl
theorem nameB_long {s : ByteArray} (h : ¬ s.size ≤ 12) : nameB s = false := by unfold nameB; rw [decide_eq_false h]; cases runB s <;> rfl
theorem nameB_run {s : ByteArray} (h : RunP s) (h12 : s.size ≤ 12) : nameB s = !isWord s.toList := by unfold nameB; rw [runB_true h, decide_eq_true h12]; rfl

set_option maxHeartbeats 2000000 in
theorem name54 (s : ByteArray) (w : World) (hs : s.size ≤ maxLen) : Calls Try.prog 54 #[.string s] w fun e w' => e = .returned (.bool (nameB s)) ∧ Below w.heap.size w w' := by
  unfold maxLen at hs
  generalize hr : nameB s = r
  have HR := hid hr
  have C64 := fun W => hid (word64 s W)
  clear hr
  go_enter Try.func54, Try.ntmps54
  go_wp2
  go_loop [3] (fun i => ∃ k : Nat, k ≤ s.size ∧ i = .int .i64 k ∧ Hid (∀ j (h : j < s.size), j < k → partI (s[j].toNat : Int) = true ∧ (j = 0 → letI' (s[j].toNat : Int) = true))) (fun i => s.size - (intOf i).toNat)
  case atStart => exact ⟨0, Nat.zero_le _, rfl, hid (fun j _ hj => absurd hj (by omega))⟩
  case round =>
    obtain ⟨k, hk, rfl, HU⟩ := hrel
    by_cases hlt : k < s.size
    · by_cases hok : partI (s[k].toNat : Int) = true ∧ (k = 0 → letI' (s[k].toNat : Int) = true)
      · have HU' : Hid (∀ j (h : j < s.size), j < k + 1 → partI (s[j].toNat : Int) = true ∧ (j = 0 → letI' (s[j].toNat : Int) = true)) := hid (fun j h hj => by
          by_cases hjk : j < k
          · exact HU.out j h hjk
          · obtain rfl : j = k := by omega
            exact hok)
        obtain ⟨hp, h0⟩ := hok
        cases hl : letI' (s[k].toNat : Int)
        · have hk0 : k ≠ 0 := fun e => by rw [h0 e] at hl; cases hl
          have hkz : ((k : Int) == 0) = false := by simp; omega
          cases hd : digI (s[k].toNat : Int)
          · have h95 : (((s[k].toNat : Nat) : Int) != 95) = false := by
              unfold partI at hp; rw [hl, hd] at hp; simpa using hp
            clear hp h0
            go_wp2_with (first | (go_at_call 62; refine (letter62 _ _).mono ?_; rintro e w' ⟨rfl, rfl⟩) | (go_at_call 63; refine (digit63 _ _).mono ?_; rintro e w' ⟨rfl, rfl⟩))
            go_round
            case rel => exact ⟨k + 1, by omega, by go_num, HU'⟩
            case measure => simp [intOf]; omega
          · clear hp h0
            go_wp2_with (first | (go_at_call 62; refine (letter62 _ _).mono ?_; rintro e w' ⟨rfl, rfl⟩) | (go_at_call 63; refine (digit63 _ _).mono ?_; rintro e w' ⟨rfl, rfl⟩))
            go_round
            case rel => exact ⟨k + 1, by omega, by go_num, HU'⟩
            case measure => simp [intOf]; omega
        · clear hp h0
          go_wp2_with (first | (go_at_call 62; refine (letter62 _ _).mono ?_; rintro e w' ⟨rfl, rfl⟩) | (go_at_call 63; refine (digit63 _ _).mono ?_; rintro e w' ⟨rfl, rfl⟩))
          go_round
          case rel => exact ⟨k + 1, by omega, by go_num, HU'⟩
          case measure => simp [intOf]; omega
      · have HT : Hid (r = false) := hid (HR.out.symm.trans (nameB_no (fun h => hok ⟨h.1 k hlt, fun e => by subst e; exact h.2.2⟩)))
        have hl : letI' (s[k].toNat : Int) = false := by
          cases e : letI' (s[k].toNat : Int)
          · rfl
          · exact absurd ⟨by unfold partI; rw [e]; rfl, fun _ => e⟩ hok
        by_cases hk0 : k = 0
        · subst hk0
          clear hok
          rw [show ((0 : Nat) : Int) = (0 : Int) from rfl]
          go_wp2_with (first | (go_at_call 62; refine (letter62 _ _).mono ?_; rintro e w' ⟨rfl, rfl⟩) | (go_at_call 63; refine (digit63 _ _).mono ?_; rintro e w' ⟨rfl, rfl⟩))
          go_ret
          exact ⟨retBool HT.out.symm, Below.refl _ _⟩
        · have hkz : ((k : Int) == 0) = false := by simp; omega
          have hp : partI (s[k].toNat : Int) = false := by
            cases e : partI (s[k].toNat : Int)
            · rfl
            · exact absurd ⟨e, fun e0 => absurd e0 hk0⟩ hok
          have hd : digI (s[k].toNat : Int) = false := by
            cases e : digI (s[k].toNat : Int)
            · rfl
            · unfold partI at hp; rw [hl, e] at hp; cases hp
          have h95 : (((s[k].toNat : Nat) : Int) != 95) = true := by
            unfold partI at hp; rw [hl, hd] at hp; simpa using hp
          clear hok hp
          go_wp2_with (first | (go_at_call 62; refine (letter62 _ _).mono ?_; rintro e w' ⟨rfl, rfl⟩) | (go_at_call 63; refine (digit63 _ _).mono ?_; rintro e w' ⟨rfl, rfl⟩))
          go_ret
          exact ⟨retBool HT.out.symm, Below.refl _ _⟩
    · obtain rfl : k = s.size := by omega
      by_cases h0 : 0 < s.size
      · have h1' : (1 : Int) ≤ (s.size : Int) := by omega
        by_cases h12 : s.size ≤ 12
        · have h12' : (s.size : Int) ≤ 12 := by omega
          have HT : Hid (r = !isWord s.toList) := hid (HR.out.symm.trans (nameB_run ⟨fun j h => (HU.out j h h).1, h0, (HU.out 0 h0 h0).2 rfl⟩ h12))
          generalize isWord s.toList = u at *
          cases u
          all_goals
            go_wp2_with (go_at_call 64; refine (C64 _).out.mono ?_; rintro e w' ⟨rfl, hb⟩)
            go_ret
            exact ⟨retBool HT.out.symm, hb⟩
        · have h12' : ¬ (s.size : Int) ≤ 12 := by omega
          have HT : Hid (r = false) := hid (HR.out.symm.trans (nameB_long h12))
          go_wp2
          go_ret
          exact ⟨retBool HT.out.symm, Below.refl _ _⟩
      · have h1' : ¬ (1 : Int) ≤ (s.size : Int) := by omega
        have HT : Hid (r = false) := hid (HR.out.symm.trans (nameB_no (fun h => by obtain ⟨h1, _⟩ := h.2; omega)))
        go_wp2
        go_ret
        exact ⟨retBool HT.out.symm, Below.refl _ _⟩
end Go.Proofs.Ytmkpoaapcghohaa
