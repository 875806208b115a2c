/- Contracts: is a string a name, by both texts. -/
import Derived.Test.YtmkpoaapcghohaaWords
namespace Go.Proofs.Ytmkpoaapcghohaa
open Go.RowKit
def wordAt (i : Nat) : ByteArray := ⟨(wordL.getD i []).toArray⟩
theorem wordAt_toList (i : Nat) : (wordAt i).toList = wordL.getD i [] := by rw [ByteArray.toList_eq]; simp [wordAt]
theorem word_at (w : World) (i : Nat) (hi : i < 90) : (w.alloc (.cells (wordL.map fun l => Value.string ⟨l.toArray⟩).toArray 9)).cell? ⟨w.heap.size, i, none⟩ = some (.string (wordAt i)) := by
  rw [World.cell?_alloc_new]
  have hl : i < wordL.length := hi
  simp [wordAt, List.getD, hl]

theorem isWord_at {l : List UInt8} {i : Nat} (hi : i < 90) (h : (wordL.getD i [] == l) = true) : isWord l = true := by
  unfold isWord
  rw [List.any_eq_true]
  have hl : i < wordL.length := hi
  refine ⟨wordL.getD i [], ?_, ?_⟩
  · simp [List.getD, hl]
  · rw [eq_of_beq h]; exact beq_self_eq_true l
theorem isWord_none {l : List UInt8} (h : ∀ i, i < 90 → (wordL.getD i [] == l) = false) : isWord l = false := by
  cases e : isWord l
  · rfl
  · unfold isWord at e
    rw [List.any_eq_true] at e
    obtain ⟨x, hx, he⟩ := e
    obtain ⟨i, hi, rfl⟩ := List.getElem_of_mem hx
    have := h i hi
    have hd : wordL.getD i [] = wordL[i] := by simp [List.getD, hi]
    rw [hd, eq_of_beq he] at this
    simp at this

set_option maxHeartbeats 1000000 in
theorem has66 (s : ByteArray) (b : Nat) (w : World) (hc : ∀ i, i < 90 → w.cell? ⟨b, i, none⟩ = some (.string (wordAt i))) :
    Calls Try.prog 66 #[.slice (some ⟨b, 0, none⟩) 90 90, .string s] w fun e w' => e = .returned (.bool (isWord s.toList)) ∧ w = w' := by
  generalize hr : isWord s.toList = r
  have HR := hid hr
  have HC := hid hc
  clear hr hc
  go_enter Try.func66, Try.ntmps66
  go_wp2
  go_loop [5] (fun i => ∃ k : Nat, k ≤ 90 ∧ i = .int .i64 k ∧ Hid (∀ i, i < k → (wordL.getD i [] == s.toList) = false)) (fun i => 90 - (intOf i).toNat)
  case atStart => exact ⟨0, Nat.zero_le _, rfl, hid (fun i hi => absurd hi (by omega))⟩
  case round =>
    obtain ⟨k, hk, rfl, HU⟩ := hrel
    by_cases hlt : k < 90
    · have hcell := HC.out k hlt
      have he : (wordAt k).toList = wordL.getD k [] := wordAt_toList k
      have HE := hid he
      cases hb : (wordL.getD k [] == s.toList)
      · have hb' : ((wordAt k).toList == s.toList) = false := by rw [he]; exact hb
        have HU' : Hid (∀ i, i < k + 1 → (wordL.getD i [] == s.toList) = false) := hid (fun i hi => by
          by_cases hik : i < k
          · exact HU.out i hik
          · obtain rfl : i = k := by omega
            exact hb)
        clear hb he HE
        generalize wordAt k = v at *
        go_wp2
        go_round
        case rel => exact ⟨k + 1, by omega, by go_num, HU'⟩
        case measure => simp [intOf]; omega
      · have hb' : ((wordAt k).toList == s.toList) = true := by rw [he]; exact hb
        have HT : Hid (r = true) := hid (HR.out.symm.trans (isWord_at hlt hb))
        clear hb he HE
        generalize wordAt k = v at *
        go_wp2
        go_ret
        exact ⟨retBool HT.out.symm, rfl⟩
    · obtain rfl : k = 90 := by omega
      have HT : Hid (r = false) := hid (HR.out.symm.trans (isWord_none HU.out))
      go_wp2
      go_ret
      exact ⟨retBool HT.out.symm, rfl⟩

set_option maxHeartbeats 1000000 in
theorem word64 (s : ByteArray) (w : World) : Calls Try.prog 64 #[.string s] w fun e w' => e = .returned (.bool (isWord s.toList)) ∧ Below w.heap.size w w' := by
  generalize hr : isWord s.toList = r
  have HR := hid hr
  clear hr
  go_enter Try.func64, Try.ntmps64
  go_wp2_with fail
  refine (words67 _).mono ?_
  rintro e w' ⟨rfl, hw⟩
  have hc : ∀ i, i < 90 → w'.cell? ⟨w.heap.size, i, none⟩ = some (.string (wordAt i)) := fun i hi => by rw [← hw]; exact word_at w i hi
  have hb : Below w.heap.size w w' := by rw [← hw]; exact (Below.refl _ _).alloc (Nat.le_refl _) _
  have HH := hid (has66 s _ _ hc)
  rw [HR.out] at HH
  clear hc hw
  go_wp2_with fail
  refine HH.out.mono ?_
  rintro e w2 ⟨rfl, rfl⟩
  go_wp2
  go_ret
  exact ⟨rfl, hb⟩

/-! bytes -/
def letI' (v : Int) : Bool := decide (97 ≤ v ∧ v ≤ 122)
def digI (v : Int) : Bool := decide (48 ≤ v ∧ v ≤ 57)
def partI (v : Int) : Bool := letI' v || digI v || v == 95

set_option maxHeartbeats 400000 in
theorem letter62 (v : Int) (w : World) : Calls Try.prog 62 #[.int .u8 v] w fun e w' => e = .returned (.bool (letI' v)) ∧ w = w' := by
  by_cases h : 97 ≤ v
  · have H : Hid (letI' v = decide (v ≤ 122)) := hid (by simp [letI', h])
    go_enter Try.func62, Try.ntmps62
    go_wp2
    go_ret
    exact ⟨retBool H.out.symm, rfl⟩
  · have H : Hid (letI' v = false) := hid (by simp [letI', h])
    go_enter Try.func62, Try.ntmps62
    go_wp2
    go_ret
    exact ⟨retBool H.out.symm, rfl⟩
set_option maxHeartbeats 400000 in
theorem letter71 (v : Int) (w : World) : Calls Try.prog 71 #[.int .u8 v] w fun e w' => e = .returned (.bool (letI' v)) ∧ w = w' := by
  by_cases h : 97 ≤ v
  · have H : Hid (letI' v = decide (v ≤ 122)) := hid (by simp [letI', h])
    go_enter Try.func71, Try.ntmps71
    go_wp2
    go_ret
    exact ⟨retBool H.out.symm, rfl⟩
  · have H : Hid (letI' v = false) := hid (by simp [letI', h])
    go_enter Try.func71, Try.ntmps71
    go_wp2
    go_ret
    exact ⟨retBool H.out.symm, rfl⟩
set_option maxHeartbeats 400000 in
theorem digit63 (v : Int) (w : World) : Calls Try.prog 63 #[.int .u8 v] w fun e w' => e = .returned (.bool (digI v)) ∧ w = w' := by
  by_cases h : 48 ≤ v
  · have H : Hid (digI v = decide (v ≤ 57)) := hid (by simp [digI, h])
    go_enter Try.func63, Try.ntmps63
    go_wp2
    go_ret
    exact ⟨retBool H.out.symm, rfl⟩
  · have H : Hid (digI v = false) := hid (by simp [digI, h])
    go_enter Try.func63, Try.ntmps63
    go_wp2
    go_ret
    exact ⟨retBool H.out.symm, rfl⟩
set_option maxHeartbeats 400000 in
theorem digit72 (v : Int) (w : World) : Calls Try.prog 72 #[.int .u8 v] w fun e w' => e = .returned (.bool (digI v)) ∧ w = w' := by
  by_cases h : 48 ≤ v
  · have H : Hid (digI v = decide (v ≤ 57)) := hid (by simp [digI, h])
    go_enter Try.func72, Try.ntmps72
    go_wp2
    go_ret
    exact ⟨retBool H.out.symm, rfl⟩
  · have H : Hid (digI v = false) := hid (by simp [digI, h])
    go_enter Try.func72, Try.ntmps72
    go_wp2
    go_ret
    exact ⟨retBool H.out.symm, rfl⟩
set_option maxHeartbeats 400000 in
theorem part70 (v : Int) (w : World) : Calls Try.prog 70 #[.int .u8 v] w fun e w' => e = .returned (.bool (partI v)) ∧ w = w' := by
  cases h : letI' v
  · cases hd : digI v
    · have H : Hid (partI v = (v == 95)) := hid (by simp [partI, h, hd])
      go_enter Try.func70, Try.ntmps70
      go_wp2_with (first | (go_at_call 71; refine (letter71 _ _).mono ?_; rintro e w' ⟨rfl, rfl⟩) | (go_at_call 72; refine (digit72 _ _).mono ?_; rintro e w' ⟨rfl, rfl⟩))
      go_ret
      exact ⟨retBool H.out.symm, rfl⟩
    · have H : Hid (partI v = true) := hid (by simp [partI, h, hd])
      go_enter Try.func70, Try.ntmps70
      go_wp2_with (first | (go_at_call 71; refine (letter71 _ _).mono ?_; rintro e w' ⟨rfl, rfl⟩) | (go_at_call 72; refine (digit72 _ _).mono ?_; rintro e w' ⟨rfl, rfl⟩))
      go_ret
      exact ⟨retBool H.out.symm, rfl⟩
  · have H : Hid (partI v = true) := hid (by simp [partI, h])
    go_enter Try.func70, Try.ntmps70
    go_wp2_with (first | (go_at_call 71; refine (letter71 _ _).mono ?_; rintro e w' ⟨rfl, rfl⟩) | (go_at_call 72; refine (digit72 _ _).mono ?_; rintro e w' ⟨rfl, rfl⟩))
    go_ret
    exact ⟨retBool H.out.symm, rfl⟩
end Go.Proofs.Ytmkpoaapcghohaa
