/- The standard functions: eval.Call. -/
import Derived.Test.YtmkpoaapcghohaaLeafF
namespace Go.Proofs.Ytmkpoaapcghohaa
open Go.RowKit

theorem fn37 (s : ByteArray) (j : Nat) (h : nameK s = j) (hj : j < 8) (w : World) : Calls Try.prog 37 #[.string s] w (FnRes (kindsK j).length (kindsK j) (resK j) w) := by
  match j, hj with
  | 0, _ => exact fn37_0 s h w
  | 1, _ => exact fn37_1 s h w
  | 2, _ => exact fn37_2 s h w
  | 3, _ => exact fn37_3 s h w
  | 4, _ => exact fn37_4 s h w
  | 5, _ => exact fn37_5 s h w
  | 6, _ => exact fn37_6 s h w
  | 7, _ => exact fn37_7 s h w

/-- an argument of a kind -/
def okArg (k z : Int) : Bool := isV z && (k != 1 || bit z)
def okArgs (ks zs : List Int) : Bool := (List.range zs.length).all fun i => okArg (ks.getD i 0) (zs.getD i 0)
theorem okArgs_at {ks zs : List Int} (h : okArgs ks zs = true) {i : Nat} (hi : i < zs.length) : okArg (ks.getD i 0) (zs.getD i 0) = true := by
  unfold okArgs at h
  rw [List.all_eq_true] at h
  exact h i (List.mem_range.2 hi)
theorem okArgs_of {ks zs : List Int} (h : ∀ i, i < zs.length → okArg (ks.getD i 0) (zs.getD i 0) = true) : okArgs ks zs = true := by
  unfold okArgs
  rw [List.all_eq_true]
  exact fun i hi => h i (List.mem_range.1 hi)
theorem okArgs_no {ks zs : List Int} {i : Nat} (hi : i < zs.length) (h : okArg (ks.getD i 0) (zs.getD i 0) = false) : okArgs ks zs = false := by
  cases e : okArgs ks zs
  · rfl
  · rw [okArgs_at e hi] at h; cases h

/-- a slice of ints lies in memory below the heap's end -/
def Ints (w : World) (a : Addr) (zs : List Int) : Prop := a.block < w.heap.size ∧ ∀ i, i < zs.length → w.cell? (a.add i) = some (.int .i64 (zs.getD i 0))
theorem block_add (a : Addr) (n : Nat) : (a.add n).block = a.block := by unfold Addr.add; split <;> rfl
theorem Ints.below {w w' : World} {a : Addr} {zs : List Int} (h : Ints w a zs) (hb : Below w.heap.size w w') : Ints w' a zs :=
  ⟨Nat.lt_of_lt_of_le h.1 hb.size, fun i hi => (hb.cell (by rw [block_add]; exact h.1)).trans (h.2 i hi)⟩
theorem Ints.c0 {w : World} {a : Addr} {zs : List Int} (h : Ints w a zs) (hn : 0 < zs.length) : w.cell? a = some (.int .i64 (zs.getD 0 0)) := h.2 0 hn
theorem Ints.c {w : World} {a : Addr} {zs : List Int} (h : Ints w a zs) {i : Nat} (hi : i + 1 < zs.length) : w.cell? ⟨a.block, a.off + (i + 1), none⟩ = some (.int .i64 (zs.getD (i + 1) 0)) := h.2 (i + 1) hi

/-- what a standard function makes of its inputs -/
def doesK (j : Nat) (zs : List Int) : Int :=
  match j with
  | 0 => wr (max (zs.getD 0 0) (-(zs.getD 0 0)))
  | 1 => min (zs.getD 0 0) (zs.getD 1 0)
  | 2 => max (zs.getD 0 0) (zs.getD 1 0)
  | 3 => min (max (zs.getD 1 0) (zs.getD 0 0)) (zs.getD 2 0)
  | 4 => if zs.getD 0 0 = 0 then zs.getD 1 0 else zs.getD 2 0
  | 5 => tr (zs.getD 0 0 != 0)
  | 6 => zs.getD 0 0
  | _ => max 0 (zs.getD 0 0)

theorem okArg_isV {k z : Int} (h : okArg k z = true) : isV z = true := by unfold okArg at h; simp at h; exact h.1
theorem okArg_bit {z : Int} (h : okArg 1 z = true) : bit z = true := by unfold okArg at h; simp at h; exact h.2

theorem does39 (s : ByteArray) (j n : Nat) (h : nameK s = j) (hj : j < 8) (a : Addr) (c : Nat) (zs : List Int) (w : World) (hz : Ints w a zs) (hzl : zs.length = n) (hkl : (kindsK j).length = n) (hok : okArgs (kindsK j) zs = true) :
    Calls Try.prog 39 #[.string s, .slice (some a) n c] w (Quiet (doesK j zs) w) := by
  match j, hj with
  | 0, _ =>
    have hn : n = 1 := hkl.symm
    subst hn
    exact does39_0 s h a c _ w (hz.c0 (by omega)) (okArg_isV (okArgs_at hok (i := 0) (by omega)))
  | 1, _ =>
    have hn : n = 2 := hkl.symm
    subst hn
    exact does39_1 s h a c _ _ w (hz.c0 (by omega)) (hz.c (i := 0) (by omega))
  | 2, _ =>
    have hn : n = 2 := hkl.symm
    subst hn
    exact does39_2 s h a c _ _ w (hz.c0 (by omega)) (hz.c (i := 0) (by omega))
  | 3, _ =>
    have hn : n = 3 := hkl.symm
    subst hn
    exact does39_3 s h a c _ _ _ w (hz.c0 (by omega)) (hz.c (i := 0) (by omega)) (hz.c (i := 1) (by omega))
  | 4, _ =>
    have hn : n = 3 := hkl.symm
    subst hn
    exact does39_4 s h a c _ _ _ w (okArg_bit (okArgs_at hok (i := 0) (by omega))) (hz.c0 (by omega)) (hz.c (i := 0) (by omega)) (hz.c (i := 1) (by omega))
  | 5, _ =>
    have hn : n = 1 := hkl.symm
    subst hn
    exact does39_5 s h a c _ w (hz.c0 (by omega))
  | 6, _ =>
    have hn : n = 1 := hkl.symm
    subst hn
    exact does39_6 s h a c _ w (hz.c0 (by omega))
  | 7, _ =>
    have hn : n = 1 := hkl.symm
    subst hn
    exact does39_7 s h a c _ w (hz.c0 (by omega))

def callV (ok : Bool) (v : Int) : Int := if ok then v else 0
def callE (ok : Bool) : Int := if ok then 0 else 2
def CallSays (v e : Int) (w : World) (x : Ending) (w' : World) : Prop := x = .returned (.tuple #[.int .i64 v, .int .i64 e]) ∧ Below w.heap.size w w'

theorem okArg_parts {k z : Int} (h : okArg k z = true) : isV z = true ∧ ((k == 1) = false ∨ ((k == 1) = true ∧ bit z = true)) := by
  unfold okArg at h
  simp only [Bool.and_eq_true, Bool.or_eq_true, bne_iff_ne, ne_eq] at h
  refine ⟨h.1, ?_⟩
  by_cases hk : k = 1
  · exact .inr ⟨by simpa using hk, h.2.resolve_left (fun f => f hk)⟩
  · exact .inl (by simpa using hk)
theorem okArg_parts' {k z : Int} (h : okArg k z = false) : isV z = false ∨ (isV z = true ∧ (k == 1) = true ∧ bit z = false) := by
  unfold okArg at h
  cases hv : isV z
  · exact .inl rfl
  · rw [hv] at h
    simp at h
    exact .inr ⟨rfl, by simpa using h.1, h.2⟩

theorem CallSays.bad {ok : Bool} {v : Int} {w w' : World} (h : ok = false) (hb : Below w.heap.size w w') : CallSays (callV ok v) (callE ok) w (.returned (.tuple #[.int .i64 0, .int .i64 2])) w' := by subst h; exact ⟨rfl, hb⟩
theorem CallSays.good {ok : Bool} {v : Int} {w w' : World} (h : ok = true) (hb : Below w.heap.size w w') : CallSays (callV ok v) (callE ok) w (.returned (.tuple #[.int .i64 v, .int .i64 0])) w' := by subst h; exact ⟨rfl, hb⟩
theorem below_drewN' (B : Nat) (w : World) (d : Nat) : Below B w (w.drewN d) := ⟨rfl, rfl, rfl, Nat.le_refl _, fun _ _ => rfl⟩

set_option maxHeartbeats 4000000 in
theorem call20_eq (s : ByteArray) (j n : Nat) (h : nameK s = j) (hj : j < 8) (a : Addr) (c : Nat) (zs : List Int) (w : World) (hz : Ints w a zs) (hzl : zs.length = n) (hkl : (kindsK j).length = n) (hn3 : n ≤ 3) :
    Calls Try.prog 20 #[.string s, .slice (some a) n c] w (CallSays (callV (okArgs (kindsK j) zs) (doesK j zs)) (callE (okArgs (kindsK j) zs)) w) := by
  have HZ := hid hz
  have HF := hid (fn37 s j h hj)
  have HD := fun W hW hok => hid (does39 s j n h hj a c zs W hW hzl hkl hok)
  generalize hks : kindsK j = ks at *
  rw [hkl] at HF
  have HZL := hid hzl
  have HKL := hid hkl
  generalize hd : doesK j zs = dv at *
  generalize resK j = rk at *
  clear hz h hks hzl hkl hd hj
  go_enter Try.func20, Try.ntmps20
  go_wp2_with (go_at_call 37; refine (HF.out _).mono ?_; rintro e w1 ⟨b, rfl, hb0, hb1, hbk, hB⟩; replace hbk := hid hbk)
  obtain ⟨W0, hW0⟩ : ∃ W0, W0 = w1.alloc (Obj.cells #[Value.slice (some { block := b, off := 0 }) n n, Value.int IntKind.i64 rk] 61) := ⟨_, rfl⟩
  have hS : W0.cell? ⟨w1.heap.size, 0, none⟩ = some (Value.slice (some { block := b, off := 0 }) n n) := by rw [hW0]; simp
  have hBW : Below w.heap.size w W0 := by rw [hW0]; exact hB.alloc hB.size _
  have hsz : w1.heap.size < W0.heap.size := by rw [hW0]; simp
  have HK : Hid (∀ i, i < n → W0.cell? ⟨b, i, none⟩ = some (.int .i64 (ks.getD i 0))) := by
    refine hid fun i hi => ?_
    rw [hW0, World.cell?_alloc_lt _ _ _ hb1]
    exact hbk.out i hi
  have HA := hid (HZ.out.below hBW)
  rw [← hW0]
  clear hW0 hbk hB HZ HF
  go_loopw [25] (fun i wr => ∃ k : Nat, k ≤ n ∧ i = .int .i64 k ∧ Hid (∀ i, i < k → okArg (ks.getD i 0) (zs.getD i 0) = true) ∧ Below W0.heap.size W0 wr)
    (fun i _ => n - (intOf i).toNat)
  case atStart => exact ⟨0, Nat.zero_le _, rfl, hid (fun i hi => absurd hi (by omega)), Below.refl _ _⟩
  case round =>
    obtain ⟨k, hk, rfl, HU, hB1⟩ := hrel
    by_cases hlt : k < n
    · have hzk : k < zs.length := by have := HZL.out; omega
      have hbo := hB1.size
      have hcz : wr.cell? (a.add k) = some (.int .i64 (zs.getD k 0)) := (HA.out.below hB1).2 k hzk
      have hck : wr.cell? ⟨b, k, none⟩ = some (.int .i64 (ks.getD k 0)) := (hB1.cell (p := ⟨b, k, none⟩) (by simp only; omega)).trans (HK.out k hlt)
      have hcs : wr.cell? ⟨w1.heap.size, 0, none⟩ = some (Value.slice (some { block := b, off := 0 }) n n) := (hB1.cell (p := ⟨w1.heap.size, 0, none⟩) hsz).trans hS
      have HZK := hid hzk
      clear hzk
      generalize hzv : zs.getD k 0 = z at *
      generalize hkv : ks.getD k 0 = kk at *
      have HZV := hid hzv
      have HKV := hid hkv
      clear hzv hkv hS HD
      cases hokz : okArg kk z
      · have hno : Hid (okArgs ks zs = false) := hid (okArgs_no (i := k) HZK.out (by rw [HZV.out, HKV.out]; exact hokz))
        rcases okArg_parts' hokz with hv | ⟨hv, hk1, hbit⟩
        · clear hokz
          go_wp2_with (first | (go_at_call 11; refine (isV11 _ _).mono ?_; rintro e w' ⟨rfl, rfl⟩) | (go_at_call 31; refine (truth31lone _ _).mono ?_; rintro e w' ⟨rfl, rfl⟩))
          go_ret2
          exact CallSays.bad hno.out (hBW.trans (hB1.mono hBW.size))
        · clear hokz
          go_wp2_with (first | (go_at_call 11; refine (isV11 _ _).mono ?_; rintro e w' ⟨rfl, rfl⟩) | (go_at_call 31; refine (truth31lone _ _).mono ?_; rintro e w' ⟨rfl, rfl⟩))
          go_ret2
          exact CallSays.bad hno.out ((hBW.trans (hB1.mono hBW.size)).alloc (by have := hBW.size; omega) _)
      · have HU' : Hid (∀ i, i < k + 1 → okArg (ks.getD i 0) (zs.getD i 0) = true) := by
          refine hid fun i hi => ?_
          by_cases hik : i < k
          · exact HU.out i hik
          · obtain rfl : i = k := by omega
            rw [HZV.out, HKV.out]; exact hokz
        obtain ⟨hv, hk1 | ⟨hk1, hbit⟩⟩ := okArg_parts hokz
        · clear hokz
          go_wp2_with (first | (go_at_call 11; refine (isV11 _ _).mono ?_; rintro e w' ⟨rfl, rfl⟩) | (go_at_call 31; refine (truth31lone _ _).mono ?_; rintro e w' ⟨rfl, rfl⟩))
          go_roundw
          case rel => exact ⟨k + 1, by omega, by go_num, HU', hB1⟩
          case measure => simp [intOf]; omega
        · clear hokz
          go_wp2_with (first | (go_at_call 11; refine (isV11 _ _).mono ?_; rintro e w' ⟨rfl, rfl⟩) | (go_at_call 31; refine (truth31lone _ _).mono ?_; rintro e w' ⟨rfl, rfl⟩))
          go_roundw
          case rel => exact ⟨k + 1, by omega, by go_num, HU', hB1.alloc hbo _⟩
          case measure => simp [intOf]; omega
    · obtain rfl : k = n := by omega
      have hok : okArgs ks zs = true := okArgs_of (fun i hi => HU.out i (by have := HZL.out; omega))
      have HD' := fun (W : World) hW => HD W hW hok
      clear HD
      replace HD' := hid HD'
      have HOK := hid hok
      clear hok
      go_wp2_with (go_at_call 39; refine ((HD'.out _ (HA.out.below hB1)).out).mono ?_; rintro e w2 ⟨rfl, d, rfl⟩)
      go_ret2
      exact CallSays.good HOK.out ((hBW.trans (hB1.mono hBW.size)).trans (below_drewN' _ _ _))

theorem CallSays.mk {v e : Int} {w w' : World} (hb : Below w.heap.size w w') : CallSays v e w (.returned (.tuple #[.int .i64 v, .int .i64 e])) w' := ⟨rfl, hb⟩

set_option maxHeartbeats 1000000 in
theorem call20_len (s : ByteArray) (j n m : Nat) (h : nameK s = j) (hj : j < 8) (A : Option Addr) (c : Nat) (w : World) (hkl : (kindsK j).length = m) (hm : n ≠ m) :
    Calls Try.prog 20 #[.string s, .slice A n c] w (CallSays 0 2 w) := by
  have HF := hid (fn37 s j h hj)
  rw [hkl] at HF
  have hne : ((n : Int) != (m : Int)) = true := by simp; omega
  clear h hkl hj hm
  go_enter Try.func20, Try.ntmps20
  go_wp2_with (go_at_call 37; refine (HF.out _).mono ?_; rintro e w1 ⟨b, rfl, hb0, hb1, hbk, hB⟩; clear hbk)
  go_ret2
  exact CallSays.mk (hB.alloc hB.size _)

set_option maxHeartbeats 1000000 in
theorem call20_no (s : ByteArray) (n : Nat) (h : nameK s = 8) (A : Option Addr) (c : Nat) (w : World) :
    Calls Try.prog 20 #[.string s, .slice A n c] w (CallSays 0 6 w) := by
  go_enter Try.func20, Try.ntmps20
  go_wp2_with (go_at_call 37; refine (fn37_8 s h _).mono ?_; rintro e w1 ⟨rfl, hB⟩)
  go_ret2
  exact CallSays.mk (hB.alloc hB.size _)

end Go.Proofs.Ytmkpoaapcghohaa
