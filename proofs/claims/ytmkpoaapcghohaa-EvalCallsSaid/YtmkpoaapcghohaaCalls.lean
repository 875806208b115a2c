/- The walk of the law EvalCalls. -/
import Derived.Test.YtmkpoaapcghohaaKindsC
namespace Go.Proofs.Ytmkpoaapcghohaa
open Go.RowKit

theorem below_drewN'' {B : Nat} {w w' : World} (h : Below B w w') (d : Nat) : Below B w (w'.drewN d) := h.trans (below_drewN' _ _ _)

set_option maxHeartbeats 2000000 in
theorem calls7nos (s : ByteArray) (A : Option Addr) (n c : Nat) (w : World) (hnc : n ≤ c) (_hc : c ≤ 9223372036854775807) (h : n ≤ 10) (hs : nameK s = 8) :
    Calls Try.prog 7 #[.string s, .slice A n c] w fun e w' => e = .returned (.bool true) ∧ Below w.heap.size w w' := by
  have hm : ¬ (10 : Int) < (n : Int) := by omega
  have HS := hid hs
  clear hs
  go_enter Try.func7, Try.ntmps7
  go_wp2_with fail
  refine (kinds19_8 s HS.out _).mono ?_
  rintro e w1 ⟨rfl, hB1⟩
  go_wp2_with fail
  refine (call20_no s _ HS.out A c _).mono ?_
  rintro e w2 ⟨rfl, hB2⟩
  go_wp2_with fail
  refine (rk21_8 s HS.out _).mono ?_
  rintro e w3 ⟨rfl, hB3⟩
  go_wp2_with (go_at_call 14; refine (awake14 _).mono ?_; rintro e w4 ⟨rfl, hB4⟩)
  go_ret
  have s1 := hB1.size
  have s2 := hB2.size
  have s3 := hB3.size
  exact ⟨rfl, ((hB1.trans (hB2.mono s1)).trans (hB3.mono (by omega))).trans (hB4.mono (by omega))⟩

set_option maxHeartbeats 4000000 in
theorem calls7lens (s : ByteArray) (j m : Nat) (A : Option Addr) (n c : Nat) (w : World) (hnc : n ≤ c) (_hc : c ≤ 9223372036854775807) (h : n ≤ 10) (hs : nameK s = j) (hj : j < 8) (hkl : (kindsK j).length = m) (hm : n ≠ m) :
    Calls Try.prog 7 #[.string s, .slice A n c] w fun e w' => e = .returned (.bool true) ∧ Below w.heap.size w w' := by
  have hm10 : ¬ (10 : Int) < (n : Int) := by omega
  have C19 := hid (fun W => kinds19 s j m hs hj hkl W)
  have C20 := hid (fun W => call20_len s j n m hs hj A c W hkl hm)
  have C21 := hid (fun W => rk21 s j m hs hj hkl W)
  have C23 := hid (fun (b c' : Nat) (W : World) => right23len (some ⟨b, 0, none⟩) A m n c' c W (fun e => hm e.symm))
  have hm3 : m ≤ 1000 := by have := kindsK_le j; omega
  generalize kindsK j = ks at *
  generalize resK j = r at *
  clear hs hj hkl hm
  go_enter Try.func7, Try.ntmps7
  go_wp2_with fail
  refine (C19.out _).mono ?_
  rintro e w1 ⟨g, cap, rfl, hg0, hg1, hgc, hB1⟩
  replace hgc := hid hgc
  go_wp2_with fail
  refine (C20.out _).mono ?_
  rintro e w2 ⟨rfl, hB2⟩
  go_wp2_with fail
  refine (C21.out _).mono ?_
  rintro e w3 ⟨b, rfl, hb0, hb1, hbc, hB3⟩
  replace hbc := hid hbc
  have s1 := hB1.size
  have s2 := hB2.size
  have s3 := hB3.size
  have hg3 : Hid (∀ i, i < m → w3.cell? ⟨g, i, none⟩ = some (.int .i64 (ks.getD i 0))) := hid (fun i hi =>
    (hB3.cell (p := ⟨g, i, none⟩) (show g < w2.heap.size by omega)).trans ((hB2.cell (p := ⟨g, i, none⟩) hg1).trans (hgc.out i hi)))
  have C22 := hid (fun c1 c2 => same22 g b m c1 c2 ks w3 hm3 hg3.out hbc.out)
  have hB : Below w.heap.size w w3 := (hB1.trans (hB2.mono s1)).trans (hB3.mono (by omega))
  clear hB1 hB2 hB3
  go_wp2_with fail
  refine (C22.out _ _).mono ?_
  rintro e w4 ⟨rfl, d, rfl⟩
  go_wp2_with fail
  refine (C23.out _ _ _).mono ?_
  rintro e w5 ⟨rfl, rfl⟩
  go_wp2_with (go_at_call 14; refine (awake14 _).mono ?_; rintro e w6 ⟨rfl, hB4⟩)
  go_ret
  have s4 := hB.size
  exact ⟨rfl, (below_drewN'' hB d).trans (hB4.mono s4)⟩

set_option maxHeartbeats 2000000 in
theorem calls7nol (s : ByteArray) (A : Option Addr) (n c : Nat) (w : World) (hnc : n ≤ c) (hc : c ≤ 9223372036854775807) (h : 10 < n) (hs : nameK s = 8) :
    Calls Try.prog 7 #[.string s, .slice A n c] w fun e w' => e = .returned (.bool true) ∧ Below w.heap.size w w' := by
  have HS := hid hs
  clear hs
  go_enter Try.func7, Try.ntmps7
  go_wp2_with fail
  refine (kinds19_8 s HS.out _).mono ?_
  rintro e w1 ⟨rfl, hB1⟩
  go_wp2_with fail
  refine (call20_no s _ HS.out A c _).mono ?_
  rintro e w2 ⟨rfl, hB2⟩
  go_wp2_with fail
  refine (rk21_8 s HS.out _).mono ?_
  rintro e w3 ⟨rfl, hB3⟩
  go_wp2_with (go_at_call 14; refine (awake14 _).mono ?_; rintro e w4 ⟨rfl, hB4⟩)
  go_ret
  have s1 := hB1.size
  have s2 := hB2.size
  have s3 := hB3.size
  exact ⟨rfl, ((hB1.trans (hB2.mono s1)).trans (hB3.mono (by omega))).trans (hB4.mono (by omega))⟩

set_option maxHeartbeats 4000000 in
theorem calls7lenl (s : ByteArray) (j m : Nat) (A : Option Addr) (n c : Nat) (w : World) (hnc : n ≤ c) (hc : c ≤ 9223372036854775807) (h : 10 < n) (hs : nameK s = j) (hj : j < 8) (hkl : (kindsK j).length = m) (hm : 10 ≠ m) :
    Calls Try.prog 7 #[.string s, .slice A n c] w fun e w' => e = .returned (.bool true) ∧ Below w.heap.size w w' := by
  have C19 := hid (fun W => kinds19 s j m hs hj hkl W)
  have C20 := hid (fun W => call20_len s j 10 m hs hj A c W hkl hm)
  have C21 := hid (fun W => rk21 s j m hs hj hkl W)
  have C23 := hid (fun (b c' : Nat) (W : World) => right23len (some ⟨b, 0, none⟩) A m 10 c' c W (fun e => hm e.symm))
  have hm3 : m ≤ 1000 := by have := kindsK_le j; omega
  generalize kindsK j = ks at *
  generalize resK j = r at *
  clear hs hj hkl hm
  go_enter Try.func7, Try.ntmps7
  go_wp2_with fail
  refine (C19.out _).mono ?_
  rintro e w1 ⟨g, cap, rfl, hg0, hg1, hgc, hB1⟩
  replace hgc := hid hgc
  go_wp2_with fail
  refine (C20.out _).mono ?_
  rintro e w2 ⟨rfl, hB2⟩
  go_wp2_with fail
  refine (C21.out _).mono ?_
  rintro e w3 ⟨b, rfl, hb0, hb1, hbc, hB3⟩
  replace hbc := hid hbc
  have s1 := hB1.size
  have s2 := hB2.size
  have s3 := hB3.size
  have hg3 : Hid (∀ i, i < m → w3.cell? ⟨g, i, none⟩ = some (.int .i64 (ks.getD i 0))) := hid (fun i hi =>
    (hB3.cell (p := ⟨g, i, none⟩) (show g < w2.heap.size by omega)).trans ((hB2.cell (p := ⟨g, i, none⟩) hg1).trans (hgc.out i hi)))
  have C22 := hid (fun c1 c2 => same22 g b m c1 c2 ks w3 hm3 hg3.out hbc.out)
  have hB : Below w.heap.size w w3 := (hB1.trans (hB2.mono s1)).trans (hB3.mono (by omega))
  clear hB1 hB2 hB3
  go_wp2_with fail
  refine (C22.out _ _).mono ?_
  rintro e w4 ⟨rfl, d, rfl⟩
  go_wp2_with fail
  refine (C23.out _ _ _).mono ?_
  rintro e w5 ⟨rfl, rfl⟩
  go_wp2_with (go_at_call 14; refine (awake14 _).mono ?_; rintro e w6 ⟨rfl, hB4⟩)
  go_ret
  have s4 := hB.size
  exact ⟨rfl, (below_drewN'' hB d).trans (hB4.mono s4)⟩

set_option maxHeartbeats 8000000 in
theorem calls7eq (s : ByteArray) (j n : Nat) (a : Addr) (c : Nat) (zs : List Int) (w : World) (hnc : n ≤ c) (_hc : c ≤ 9223372036854775807) (hs : nameK s = j) (hj : j < 8) (hkl : (kindsK j).length = n) (hz : Ints w a zs) (hzl : zs.length = n) :
    Calls Try.prog 7 #[.string s, .slice (some a) n c] w fun e w' => e = .returned (.bool true) ∧ Below w.heap.size w w' := by
  have hn3 : n ≤ 3 := by have := kindsK_le j; omega
  have hm : ¬ (10 : Int) < (n : Int) := by omega
  have C19 := hid (fun W => kinds19 s j n hs hj hkl W)
  have C20 := hid (fun W hW => call20_eq s j n hs hj a c zs W hW hzl hkl hn3)
  have C21 := hid (fun W => rk21 s j n hs hj hkl W)
  have C24 := hid (fun W hW hok => rc24 s j n hs hj a c zs W hW hzl hkl hok)
  have hm3 : n ≤ 1000 := by omega
  have HZ := hid hz
  have HZL := hid hzl
  generalize kindsK j = ks at *
  generalize resK j = r at *
  generalize doesK j zs = dv at *
  clear hs hj hkl hz hzl hn3
  cases hok : okArgs ks zs
  all_goals
    rw [hok] at C20
    simp only [callV, callE, if_true, Bool.false_eq_true, if_false] at C20
    have HOK := hid hok
    clear hok
    go_enter Try.func7, Try.ntmps7
    go_wp2_with fail
    refine (C19.out _).mono ?_
    rintro e w1 ⟨g, cap, rfl, hg0, hg1, hgc, hB1⟩
    replace hgc := hid hgc
    have HZ1 := hid (HZ.out.below hB1)
    go_wp2_with fail
    refine (C20.out _ HZ1.out).mono ?_
    rintro e w2 ⟨rfl, hB2⟩
    have HZ2 := hid (HZ1.out.below hB2)
    go_wp2_with fail
    refine (C21.out _).mono ?_
    rintro e w3 ⟨b, rfl, hb0, hb1, hbc, hB3⟩
    have HZ3 := hid (HZ2.out.below hB3)
    replace hbc := hid hbc
    have s1 := hB1.size
    have s2 := hB2.size
    have s3 := hB3.size
    have hg3 : Hid (∀ i, i < n → w3.cell? ⟨g, i, none⟩ = some (.int .i64 (ks.getD i 0))) := hid (fun i hi =>
      (hB3.cell (p := ⟨g, i, none⟩) (show g < w2.heap.size by omega)).trans ((hB2.cell (p := ⟨g, i, none⟩) hg1).trans (hgc.out i hi)))
    have C22 := hid (fun c1 c2 => same22 g b n c1 c2 ks w3 hm3 hg3.out hbc.out)
    have C23 := hid (fun c1 d => right23 b n c1 c a ks zs (w3.drewN d) hm3 hbc.out HZ3.out HZL.out)
    rw [HOK.out] at C23
    have hB : Below w.heap.size w w3 := (hB1.trans (hB2.mono s1)).trans (hB3.mono (by omega))
    clear hB1 hB2 hB3
    go_wp2_with fail
    refine (C22.out _ _).mono ?_
    rintro e w4 ⟨rfl, d, rfl⟩
    go_wp2_with fail
    refine (C23.out _ _).mono ?_
    rintro e w5 ⟨rfl, rfl⟩
    have s4 := hB.size
    have C24' := hid (fun hok => C24.out (w3.drewN d) HZ3.out hok)
    replace HOK := hid HOK
  · go_wp2_with (go_at_call 14; refine (awake14 _).mono ?_; rintro e w6 ⟨rfl, hB4⟩)
    go_ret
    exact ⟨rfl, (below_drewN'' hB d).trans (hB4.mono s4)⟩
  · go_wp2_with fail
    refine (C24'.out HOK.out.out).mono ?_
    rintro e w6 ⟨rfl, d2, rfl⟩
    go_wp2_with (go_at_call 14; refine (awake14 _).mono ?_; rintro e w6 ⟨rfl, hB4⟩)
    go_ret
    exact ⟨rfl, (below_drewN'' hB (d + d2)).trans (hB4.mono s4)⟩

theorem calls7 (s : ByteArray) (A : Option Addr) (n c : Nat) (w : World) (hnc : n ≤ c) (hc : c ≤ 9223372036854775807)
    (hA : 0 < n → ∃ a zs, A = some a ∧ Ints w a zs ∧ zs.length = n) :
    Calls Try.prog 7 #[.string s, .slice A n c] w fun e w' => e = .returned (.bool true) ∧ Below w.heap.size w w' := by
  by_cases h8 : nameK s = 8
  · by_cases h : n ≤ 10
    · exact calls7nos s A n c w hnc hc h h8
    · exact calls7nol s A n c w hnc hc (by omega) h8
  · have hj : nameK s < 8 := by have := nameK_le s; omega
    by_cases h : n ≤ 10
    · by_cases hm : n = (kindsK (nameK s)).length
      · obtain ⟨a, zs, rfl, hz, hzl⟩ := hA (by have := kindsK_pos _ hj; omega)
        exact calls7eq s _ n a c zs w hnc hc rfl hj hm.symm hz hzl
      · exact calls7lens s _ _ A n c w hnc hc h rfl hj rfl hm
    · exact calls7lenl s _ _ A n c w hnc hc (by omega) rfl hj rfl (by have := kindsK_le (nameK s); omega)

end Go.Proofs.Ytmkpoaapcghohaa
