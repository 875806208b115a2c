/- The reference's Kinds and Call, by name. -/
import Derived.Test.YtmkpoaapcghohaaKinds
namespace Go.Proofs.Ytmkpoaapcghohaa
open Go.RowKit

set_option maxHeartbeats 1000000 in
theorem rk21_0 (s : ByteArray) (h : nameK s = 0) (w : World) : Calls Try.prog 21 #[.string s] w (KindsRes 1 (kindsK 0) (resK 0) w) := by
  obtain h0 := nameK_0 h
  clear h
  go_enter Try.func21, Try.ntmps21
  go_wp2
  refine bodyPost_ret (v := .tuple #[.slice (some ⟨w.heap.size, 0, none⟩) 1 1, .int .i64 2, .bool true]) (by simp [results, Try.results21, go_sem]) rfl ⟨w.heap.size, rfl, by omega, by simp, ?_, ?_⟩
  · intro i hi
    match i, hi with
    | 0, _ => simp [kindsK]
  · exact (Below.refl _ _).alloc (Nat.le_refl _) _
set_option maxHeartbeats 1000000 in
theorem rk21_1 (s : ByteArray) (h : nameK s = 1) (w : World) : Calls Try.prog 21 #[.string s] w (KindsRes 2 (kindsK 1) (resK 1) w) := by
  obtain ⟨h0, h1⟩ := nameK_1 h
  clear h
  go_enter Try.func21, Try.ntmps21
  go_wp2
  refine bodyPost_ret (v := .tuple #[.slice (some ⟨w.heap.size, 0, none⟩) 2 2, .int .i64 2, .bool true]) (by simp [results, Try.results21, go_sem]) rfl ⟨w.heap.size, rfl, by omega, by simp, ?_, ?_⟩
  · intro i hi
    match i, hi with
    | 0, _ => simp [kindsK]
    | 1, _ => simp [kindsK]
  · exact (Below.refl _ _).alloc (Nat.le_refl _) _
set_option maxHeartbeats 1000000 in
theorem rk21_2 (s : ByteArray) (h : nameK s = 2) (w : World) : Calls Try.prog 21 #[.string s] w (KindsRes 2 (kindsK 2) (resK 2) w) := by
  obtain ⟨h0, h1, h2⟩ := nameK_2 h
  clear h
  go_enter Try.func21, Try.ntmps21
  go_wp2
  refine bodyPost_ret (v := .tuple #[.slice (some ⟨w.heap.size, 0, none⟩) 2 2, .int .i64 2, .bool true]) (by simp [results, Try.results21, go_sem]) rfl ⟨w.heap.size, rfl, by omega, by simp, ?_, ?_⟩
  · intro i hi
    match i, hi with
    | 0, _ => simp [kindsK]
    | 1, _ => simp [kindsK]
  · exact (Below.refl _ _).alloc (Nat.le_refl _) _
set_option maxHeartbeats 1000000 in
theorem rk21_3 (s : ByteArray) (h : nameK s = 3) (w : World) : Calls Try.prog 21 #[.string s] w (KindsRes 3 (kindsK 3) (resK 3) w) := by
  obtain ⟨h0, h1, h2, h3⟩ := nameK_3 h
  clear h
  go_enter Try.func21, Try.ntmps21
  go_wp2
  refine bodyPost_ret (v := .tuple #[.slice (some ⟨w.heap.size, 0, none⟩) 3 3, .int .i64 2, .bool true]) (by simp [results, Try.results21, go_sem]) rfl ⟨w.heap.size, rfl, by omega, by simp, ?_, ?_⟩
  · intro i hi
    match i, hi with
    | 0, _ => simp [kindsK]
    | 1, _ => simp [kindsK]
    | 2, _ => simp [kindsK]
  · exact (Below.refl _ _).alloc (Nat.le_refl _) _
set_option maxHeartbeats 1000000 in
theorem rk21_4 (s : ByteArray) (h : nameK s = 4) (w : World) : Calls Try.prog 21 #[.string s] w (KindsRes 3 (kindsK 4) (resK 4) w) := by
  obtain ⟨h0, h1, h2, h3, h4⟩ := nameK_4 h
  clear h
  go_enter Try.func21, Try.ntmps21
  go_wp2
  refine bodyPost_ret (v := .tuple #[.slice (some ⟨w.heap.size, 0, none⟩) 3 3, .int .i64 2, .bool true]) (by simp [results, Try.results21, go_sem]) rfl ⟨w.heap.size, rfl, by omega, by simp, ?_, ?_⟩
  · intro i hi
    match i, hi with
    | 0, _ => simp [kindsK]
    | 1, _ => simp [kindsK]
    | 2, _ => simp [kindsK]
  · exact (Below.refl _ _).alloc (Nat.le_refl _) _
set_option maxHeartbeats 1000000 in
theorem rk21_5 (s : ByteArray) (h : nameK s = 5) (w : World) : Calls Try.prog 21 #[.string s] w (KindsRes 1 (kindsK 5) (resK 5) w) := by
  obtain ⟨h0, h1, h2, h3, h4, h5⟩ := nameK_5 h
  clear h
  go_enter Try.func21, Try.ntmps21
  go_wp2
  refine bodyPost_ret (v := .tuple #[.slice (some ⟨w.heap.size, 0, none⟩) 1 1, .int .i64 1, .bool true]) (by simp [results, Try.results21, go_sem]) rfl ⟨w.heap.size, rfl, by omega, by simp, ?_, ?_⟩
  · intro i hi
    match i, hi with
    | 0, _ => simp [kindsK]
  · exact (Below.refl _ _).alloc (Nat.le_refl _) _
set_option maxHeartbeats 1000000 in
theorem rk21_6 (s : ByteArray) (h : nameK s = 6) (w : World) : Calls Try.prog 21 #[.string s] w (KindsRes 1 (kindsK 6) (resK 6) w) := by
  obtain ⟨h0, h1, h2, h3, h4, h5, h6⟩ := nameK_6 h
  clear h
  go_enter Try.func21, Try.ntmps21
  go_wp2
  refine bodyPost_ret (v := .tuple #[.slice (some ⟨w.heap.size, 0, none⟩) 1 1, .int .i64 2, .bool true]) (by simp [results, Try.results21, go_sem]) rfl ⟨w.heap.size, rfl, by omega, by simp, ?_, ?_⟩
  · intro i hi
    match i, hi with
    | 0, _ => simp [kindsK]
  · exact (Below.refl _ _).alloc (Nat.le_refl _) _
set_option maxHeartbeats 1000000 in
theorem rk21_7 (s : ByteArray) (h : nameK s = 7) (w : World) : Calls Try.prog 21 #[.string s] w (KindsRes 1 (kindsK 7) (resK 7) w) := by
  obtain ⟨h0, h1, h2, h3, h4, h5, h6, h7⟩ := nameK_7 h
  clear h
  go_enter Try.func21, Try.ntmps21
  go_wp2
  refine bodyPost_ret (v := .tuple #[.slice (some ⟨w.heap.size, 0, none⟩) 1 1, .int .i64 3, .bool true]) (by simp [results, Try.results21, go_sem]) rfl ⟨w.heap.size, rfl, by omega, by simp, ?_, ?_⟩
  · intro i hi
    match i, hi with
    | 0, _ => simp [kindsK]
  · exact (Below.refl _ _).alloc (Nat.le_refl _) _
set_option maxHeartbeats 1000000 in
theorem rk21_8 (s : ByteArray) (h : nameK s = 8) (w : World) : Calls Try.prog 21 #[.string s] w fun e w' => e = .returned (.tuple #[.slice none 0 0, .int .i64 0, .bool false]) ∧ Below w.heap.size w w' := by
  obtain ⟨h0, h1, h2, h3, h4, h5, h6, h7⟩ := nameK_8 h
  clear h
  go_enter Try.func21, Try.ntmps21
  go_wp2
  go_ret3
  exact ⟨rfl, Below.refl _ _⟩
theorem rk21 (s : ByteArray) (j n : Nat) (h : nameK s = j) (hj : j < 8) (hn : (kindsK j).length = n) (w : World) : Calls Try.prog 21 #[.string s] w (KindsRes n (kindsK j) (resK j) w) := by
  subst hn
  match j, hj with
  | 0, _ => exact rk21_0 s h w
  | 1, _ => exact rk21_1 s h w
  | 2, _ => exact rk21_2 s h w
  | 3, _ => exact rk21_3 s h w
  | 4, _ => exact rk21_4 s h w
  | 5, _ => exact rk21_5 s h w
  | 6, _ => exact rk21_6 s h w
  | 7, _ => exact rk21_7 s h w
set_option maxHeartbeats 1000000 in
theorem rc24_0 (s : ByteArray) (hs : nameK s = 0) (a : Addr) (c : Nat) (z0 : Int) (w : World) (hz : isV z0 = true) (h0 : w.cell? a = some (.int .i64 z0)) :
    Calls Try.prog 24 #[.string s, .slice (some a) 1 c] w (Quiet (wr (max z0 (-z0))) w) := by
  obtain t0 := nameK_0 hs
  clear hs
  obtain ⟨hb0, hb1⟩ := isV_iff.1 hz
  by_cases hm : z0 < 0
  · have HM := hid (max_of (a := z0) (b := -z0) (by omega))
    clear hz
    go_enter Try.func24, Try.ntmps24
    go_wp2_with (go_at_call 15; refine (wrap15 _ _).mono ?_; rintro e w' ⟨rfl, rfl⟩)
    go_ret
    exact Quiet.mk0 (by rw [HM.out])
  · have HM := hid (max_of' (a := z0) (b := -z0) (by omega))
    have HW := hid (wr_id hz)
    clear hz
    go_enter Try.func24, Try.ntmps24
    go_wp2
    go_ret
    exact Quiet.mk0 (by rw [HM.out, HW.out])

set_option maxHeartbeats 1000000 in
theorem rc24_1 (s : ByteArray) (hs : nameK s = 1) (a : Addr) (c : Nat) (z0 z1 : Int) (w : World) (h0 : w.cell? a = some (.int .i64 z0)) (h1 : w.cell? ⟨a.block, a.off + 1, none⟩ = some (.int .i64 z1)) :
    Calls Try.prog 24 #[.string s, .slice (some a) 2 c] w (Quiet (min z0 z1) w) := by
  obtain ⟨t0, t1⟩ := nameK_1 hs
  clear hs
  by_cases hm : z1 < z0
  · have HM := hid (min_of' (a := z0) (b := z1) (by omega))
    go_enter Try.func24, Try.ntmps24
    go_wp2
    go_quiet (fail)
    go_wp2
    go_ret
    exact Quiet.mk HM.out.symm _
  · have HM := hid (min_of (a := z0) (b := z1) (by omega))
    go_enter Try.func24, Try.ntmps24
    go_wp2
    go_quiet (fail)
    go_wp2
    go_ret
    exact Quiet.mk HM.out.symm _

set_option maxHeartbeats 1000000 in
theorem rc24_2 (s : ByteArray) (hs : nameK s = 2) (a : Addr) (c : Nat) (z0 z1 : Int) (w : World) (h0 : w.cell? a = some (.int .i64 z0)) (h1 : w.cell? ⟨a.block, a.off + 1, none⟩ = some (.int .i64 z1)) :
    Calls Try.prog 24 #[.string s, .slice (some a) 2 c] w (Quiet (max z0 z1) w) := by
  obtain ⟨t0, t1, t2⟩ := nameK_2 hs
  clear hs
  by_cases hm : z0 < z1
  · have HM := hid (max_of (a := z0) (b := z1) (by omega))
    go_enter Try.func24, Try.ntmps24
    go_wp2
    go_quiet (fail)
    go_wp2
    go_ret
    exact Quiet.mk HM.out.symm _
  · have HM := hid (max_of' (a := z0) (b := z1) (by omega))
    go_enter Try.func24, Try.ntmps24
    go_wp2
    go_quiet (fail)
    go_wp2
    go_ret
    exact Quiet.mk HM.out.symm _

set_option maxHeartbeats 1000000 in
theorem rc24_3 (s : ByteArray) (hs : nameK s = 3) (a : Addr) (c : Nat) (z0 z1 z2 : Int) (w : World) (h0 : w.cell? a = some (.int .i64 z0)) (h1 : w.cell? ⟨a.block, a.off + 1, none⟩ = some (.int .i64 z1)) (h2 : w.cell? ⟨a.block, a.off + 2, none⟩ = some (.int .i64 z2)) :
    Calls Try.prog 24 #[.string s, .slice (some a) 3 c] w (Quiet (min (max z1 z0) z2) w) := by
  obtain ⟨t0, t1, t2, t3⟩ := nameK_3 hs
  clear hs
  by_cases hm : z0 < z1 <;> by_cases hk : z2 < (if z0 < z1 then z1 else z0)
  · rw [if_pos hm] at hk
    have HM : Hid (min (max z1 z0) z2 = z2) := hid (by omega)
    go_enter Try.func24, Try.ntmps24
    go_wp2
    go_quiet (fail)
    go_wp2
    go_ret
    exact Quiet.mk HM.out.symm _
  · rw [if_pos hm] at hk
    have HM : Hid (min (max z1 z0) z2 = z1) := hid (by omega)
    go_enter Try.func24, Try.ntmps24
    go_wp2
    go_quiet (fail)
    go_wp2
    go_ret
    exact Quiet.mk HM.out.symm _
  · rw [if_neg hm] at hk
    have HM : Hid (min (max z1 z0) z2 = z2) := hid (by omega)
    go_enter Try.func24, Try.ntmps24
    go_wp2
    go_quiet (fail)
    go_wp2
    go_ret
    exact Quiet.mk HM.out.symm _
  · rw [if_neg hm] at hk
    have HM : Hid (min (max z1 z0) z2 = z0) := hid (by omega)
    go_enter Try.func24, Try.ntmps24
    go_wp2
    go_quiet (fail)
    go_wp2
    go_ret
    exact Quiet.mk HM.out.symm _

set_option maxHeartbeats 1000000 in
theorem rc24_4 (s : ByteArray) (hs : nameK s = 4) (a : Addr) (c : Nat) (z0 z1 z2 : Int) (w : World) (hz : bit z0 = true) (h0 : w.cell? a = some (.int .i64 z0)) (h1 : w.cell? ⟨a.block, a.off + 1, none⟩ = some (.int .i64 z1)) (h2 : w.cell? ⟨a.block, a.off + 2, none⟩ = some (.int .i64 z2)) :
    Calls Try.prog 24 #[.string s, .slice (some a) 3 c] w (Quiet (if z0 = 0 then z1 else z2) w) := by
  obtain ⟨t0, t1, t2, t3, t4⟩ := nameK_4 hs
  clear hs
  rcases bit_iff.1 hz with rfl | rfl
  · clear hz
    go_enter Try.func24, Try.ntmps24
    go_wp2
    go_ret
    exact Quiet.mk0 rfl
  · clear hz
    go_enter Try.func24, Try.ntmps24
    go_wp2
    go_ret
    exact Quiet.mk0 rfl

set_option maxHeartbeats 1000000 in
theorem rc24_5 (s : ByteArray) (hs : nameK s = 5) (a : Addr) (c : Nat) (z0 : Int) (w : World) (h0 : w.cell? a = some (.int .i64 z0)) :
    Calls Try.prog 24 #[.string s, .slice (some a) 1 c] w (Quiet (tr (z0 != 0)) w) := by
  obtain ⟨t0, t1, t2, t3, t4, t5⟩ := nameK_5 hs
  clear hs
  go_enter Try.func24, Try.ntmps24
  go_wp2_with (go_at_call 36; refine (truth36 _ _).mono ?_; rintro e w' ⟨rfl, rfl⟩)
  go_ret
  exact Quiet.mk0 rfl

set_option maxHeartbeats 1000000 in
theorem rc24_6 (s : ByteArray) (hs : nameK s = 6) (a : Addr) (c : Nat) (z0 : Int) (w : World) (h0 : w.cell? a = some (.int .i64 z0)) :
    Calls Try.prog 24 #[.string s, .slice (some a) 1 c] w (Quiet (z0) w) := by
  obtain ⟨t0, t1, t2, t3, t4, t5, t6⟩ := nameK_6 hs
  clear hs
  have t7 : (s.toList == [116, 111, 116, 105, 109, 101]) = false := by
    have e := eq_of_beq t6
    rw [e]
    decide
  go_enter Try.func24, Try.ntmps24
  go_wp2
  go_ret
  exact Quiet.mk0 rfl

set_option maxHeartbeats 1000000 in
theorem rc24_7 (s : ByteArray) (hs : nameK s = 7) (a : Addr) (c : Nat) (z0 : Int) (w : World) (h0 : w.cell? a = some (.int .i64 z0)) :
    Calls Try.prog 24 #[.string s, .slice (some a) 1 c] w (Quiet (max 0 z0) w) := by
  obtain ⟨t0, t1, t2, t3, t4, t5, t6, t7⟩ := nameK_7 hs
  clear hs
  by_cases hm : z0 < 0
  · have HM := hid (max_of' (a := 0) (b := z0) (by omega))
    go_enter Try.func24, Try.ntmps24
    go_wp2
    go_ret
    exact Quiet.mk0 HM.out.symm
  · have HM := hid (max_of (a := 0) (b := z0) (by omega))
    go_enter Try.func24, Try.ntmps24
    go_wp2
    go_ret
    exact Quiet.mk0 HM.out.symm

theorem rc24 (s : ByteArray) (j n : Nat) (h : nameK s = j) (hj : j < 8) (a : Addr) (c : Nat) (zs : List Int) (w : World) (hz : Ints w a zs) (hzl : zs.length = n) (hkl : (kindsK j).length = n) (hok : okArgs (kindsK j) zs = true) :
    Calls Try.prog 24 #[.string s, .slice (some a) n c] w (Quiet (doesK j zs) w) := by
  match j, hj with
  | 0, _ =>
    have hn : n = 1 := hkl.symm
    subst hn
    exact rc24_0 s h a c _ w (okArg_isV (okArgs_at hok (i := 0) (by omega))) (hz.c0 (by omega))
  | 1, _ =>
    have hn : n = 2 := hkl.symm
    subst hn
    exact rc24_1 s h a c _ _ w (hz.c0 (by omega)) (hz.c (i := 0) (by omega))
  | 2, _ =>
    have hn : n = 2 := hkl.symm
    subst hn
    exact rc24_2 s h a c _ _ w (hz.c0 (by omega)) (hz.c (i := 0) (by omega))
  | 3, _ =>
    have hn : n = 3 := hkl.symm
    subst hn
    exact rc24_3 s h a c _ _ _ w (hz.c0 (by omega)) (hz.c (i := 0) (by omega)) (hz.c (i := 1) (by omega))
  | 4, _ =>
    have hn : n = 3 := hkl.symm
    subst hn
    exact rc24_4 s h a c _ _ _ w (okArg_bit (okArgs_at hok (i := 0) (by omega))) (hz.c0 (by omega)) (hz.c (i := 0) (by omega)) (hz.c (i := 1) (by omega))
  | 5, _ =>
    have hn : n = 1 := hkl.symm
    subst hn
    exact rc24_5 s h a c _ w (hz.c0 (by omega))
  | 6, _ =>
    have hn : n = 1 := hkl.symm
    subst hn
    exact rc24_6 s h a c _ w (hz.c0 (by omega))
  | 7, _ =>
    have hn : n = 1 := hkl.symm
    subst hn
    exact rc24_7 s h a c _ w (hz.c0 (by omega))

end Go.Proofs.Ytmkpoaapcghohaa
