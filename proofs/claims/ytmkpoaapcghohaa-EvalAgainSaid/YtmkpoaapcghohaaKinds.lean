/- Contracts: slices.Clone at ints, eval.Kinds, the reference's Kinds, SameInts, Right. -/
import Derived.Test.YtmkpoaapcghohaaQuot
import Derived.Deep.RegionHeld3
namespace Go.Proofs.Ytmkpoaapcghohaa
open Go.RowKit
theorem info3 : (Try.prog.info? 3).map (fun i => (i.zero, i.size, i.bytes)) = some (some (.int .i64 0), 1, 8) := by kernel_rfl
def ints (n : Nat) (ks : List Int) : List Value := (List.range n).map fun i => .int .i64 (ks.getD i 0)
theorem ints_len (n : Nat) (ks : List Int) : (ints n ks).length = n := by simp [ints]
theorem ints_at {n : Nat} {ks : List Int} {j : Nat} {u : Value} (h : (ints n ks)[j]? = some u) : j < n ∧ u = .int .i64 (ks.getD j 0) := by
  unfold ints at h
  rw [List.getElem?_map] at h
  by_cases hj : j < n
  · rw [List.getElem?_range hj] at h
    simp at h
    exact ⟨hj, by rw [← h]; simp⟩
  · rw [List.getElem?_eq_none (by simp; omega)] at h
    cases h
theorem ints_get {n : Nat} {ks : List Int} {j : Nat} (h : j < n) : (ints n ks)[j]? = some (.int .i64 (ks.getD j 0)) := by
  unfold ints
  rw [List.getElem?_map, List.getElem?_range h]; rfl
theorem ints_one {n : Nat} {ks : List Int} : ∀ u ∈ ints n ks, u.oneCell' = true := by
  intro u hu
  unfold ints at hu
  rw [List.mem_map] at hu
  obtain ⟨i, _, rfl⟩ := hu
  rfl
theorem own_res {B n : Nat} {w1 : World} {v : Value} {ks : List Int} (h : w1.ownsRow B 3 1 v n (ints n ks)) (hn : 0 < n) :
    ∃ g cap, v = .slice (some ⟨g, 0, none⟩) n cap ∧ B ≤ g ∧ g < w1.heap.size ∧ ∀ i, i < n → w1.cell? ⟨g, i, none⟩ = some (.int .i64 (ks.getD i 0)) := by
  rcases h.2 with ⟨_, h0⟩ | ⟨g, cap, cur, rfl, hb, hg, _⟩
  · omega
  · refine ⟨g, cap, rfl, hb, (Array.getElem?_eq_some_iff.1 hg).1, fun i hi => ?_⟩
    rw [h.cellAt i (by omega)]
    exact ints_get hi
def IntsRes (n : Nat) (ks : List Int) (w : World) (e : Ending) (w' : World) : Prop :=
  ∃ g cap, e = .returned (.slice (some ⟨g, 0, none⟩) n cap) ∧ w.heap.size ≤ g ∧ g < w'.heap.size ∧ (∀ i, i < n → w'.cell? ⟨g, i, none⟩ = some (.int .i64 (ks.getD i 0))) ∧ Below w.heap.size w w'
set_option maxHeartbeats 1000000 in
theorem clone38 (b n : Nat) (ks : List Int) (w : World) (hn : 0 < n) (hm : n ≤ 1000) (hb : b < w.heap.size) (hk : ∀ i, i < n → w.cell? ⟨b, i, none⟩ = some (.int .i64 (ks.getD i 0))) :
    Calls Try.prog 38 #[.slice (some ⟨b, 0, none⟩) n n] w (IntsRes n ks w) := by
  have HK := hid hk
  clear hk
  have qT : ∀ (w : World) (a : Option Addr) (n c n' c' : Nat), (binOp .eql 38 (.slice a n c) (.slice none n' c')).run Try.prog w = .ok (.bool a.isNone) w := fun w a n c n' c' => Lib.run_eql_slice_nil w _ _ a n c n' c' Try.underlying38
  obtain ⟨i0, hi, hz0, hz1, hz2⟩ := info_parts info3
  go_enter Try.func38, Try.ntmps38
  go_wp2_with (at_builtin; refine wpList_append_own _ rfl (.tmp 5) (.tmp 6) 38 rfl w.heap.size 3 i0 (.int .i64 0) 1 8 Try.underlying38 hi hz0 hz1 hz2 rfl (by decide) _ 0 [] rfl (World.ownsRow_lit _ #[] 0 (Nat.le_refl _) (by unfold maxLen; omega) rfl) ⟨b, 0, none⟩ n n (ints n ks) rfl ?c1 ?c2 ?c3 ?c4 ?c5 ?c6 ?_)
  case c1 => rw [ints_len]; omega
  case c2 =>
    intro j u hj
    obtain ⟨hj', rfl⟩ := ints_at hj
    rw [World.cell?_alloc_lt _ _ _ (by rw [block_add]; exact hb)]
    have := HK.out j hj'
    unfold Addr.add
    split
    · next h => subst h; exact this
    · rw [Nat.zero_add]; exact this
  case c3 => exact ints_one
  case c4 => unfold maxLen; omega
  case c5 => omega
  case c6 => simp
  · intro v' w1 hown hgrow hnil
    obtain ⟨g, cap, rfl, hg0, hg1, hcells⟩ := own_res hown hn
    have hB : Below w.heap.size w w1 := ((Below.refl _ _).alloc (Nat.le_refl _) _).grown hgrow (by simp) (fun k e => by cases e; exact Nat.le_refl _)
    replace hcells := hid hcells
    clear hown hgrow hnil
    go_wp2
    go_ret
    exact ⟨g, cap, rfl, hg0, hg1, hcells.out, hB⟩
theorem kindsK_le (j : Nat) : (kindsK j).length ≤ 3 := by unfold kindsK; split <;> simp
theorem kindsK_pos (j : Nat) (h : j < 8) : 0 < (kindsK j).length := by
  match j, h with
  | 0, _ => decide
  | 1, _ => decide
  | 2, _ => decide
  | 3, _ => decide
  | 4, _ => decide
  | 5, _ => decide
  | 6, _ => decide
  | 7, _ => decide

def Kinds19 (n : Nat) (ks : List Int) (r : Int) (w : World) (e : Ending) (w' : World) : Prop :=
  ∃ g cap, e = .returned (.tuple #[.slice (some ⟨g, 0, none⟩) n cap, .int .i64 r, .int .i64 0]) ∧ w.heap.size ≤ g ∧ g < w'.heap.size ∧ (∀ i, i < n → w'.cell? ⟨g, i, none⟩ = some (.int .i64 (ks.getD i 0))) ∧ Below w.heap.size w w'

set_option maxHeartbeats 2000000 in
theorem kinds19 (s : ByteArray) (j n : Nat) (h : nameK s = j) (hj : j < 8) (hn : (kindsK j).length = n) (w : World) :
    Calls Try.prog 19 #[.string s] w (Kinds19 n (kindsK j) (resK j) w) := by
  have HF := fun W => hid (fn37 s j h hj W)
  have hn3 : n ≤ 3 := by have := kindsK_le j; omega
  have hn0 : 0 < n := by have := kindsK_pos j hj; omega
  generalize kindsK j = ks at *
  generalize resK j = r at *
  rw [hn] at HF
  replace HF := hid HF
  clear hn h hj
  go_enter Try.func19, Try.ntmps19
  go_wp2_with (go_at_call 37; refine (HF.out _).out.mono ?_; rintro e w1 ⟨b, rfl, hb0, hb1, hbk, hB⟩; replace hbk := hid hbk)
  obtain ⟨W0, hW0⟩ : ∃ W0, W0 = w1.alloc (Obj.cells #[Value.slice (some ⟨b, 0, none⟩) n n, Value.int IntKind.i64 r] 61) := ⟨_, rfl⟩
  have hS0 : W0.cell? ⟨w1.heap.size, 0, none⟩ = some (Value.slice (some ⟨b, 0, none⟩) n n) := by rw [hW0]; simp
  have hS1 : W0.cell? ⟨w1.heap.size, 1, none⟩ = some (Value.int .i64 r) := by rw [hW0]; simp
  have hbk' : Hid (∀ i, i < n → W0.cell? ⟨b, i, none⟩ = some (.int .i64 (ks.getD i 0))) := hid (fun i hi => by rw [hW0, World.cell?_alloc_lt _ _ _ hb1]; exact hbk.out i hi)
  have hb2 : b < W0.heap.size := by rw [hW0]; simp; omega
  have hsz : w1.heap.size < W0.heap.size := by rw [hW0]; simp
  have hB2 : Below w.heap.size w W0 := by rw [hW0]; exact hB.alloc hB.size _
  rw [← hW0]
  clear hW0 hB hbk
  have hk3 : n ≤ 1000 := by omega
  have hC : Hid (∀ W : World, W.heap = W0.heap → Calls Try.prog 38 #[.slice (some ⟨b, 0, none⟩) n n] W (IntsRes n ks W)) := hid (fun W hW =>
    clone38 b n ks W hn0 hk3 (by rw [hW]; exact hb2) (fun i hi => (World.cell?_of_block (w := W0) (a := ⟨b, i, none⟩) (by rw [hW])).trans (hbk'.out i hi)))
  clear hbk'
  go_region_held3 (fun w' => w'.cell? ⟨w1.heap.size, 0, none⟩ = some (Value.slice (some ⟨b, 0, none⟩) n n) ∧ w'.cell? ⟨w1.heap.size, 1, none⟩ = some (Value.int .i64 r)) (first | exact ⟨hk0, hk1⟩ | go_keep)
    (first | (go_at_call 38; refine (hC.out W0.drew rfl).mono ?_; rintro e w2 ⟨g, cap, rfl, hg0, hg1, hgc, hB3⟩; replace hgc := hid hgc; have hk0 := (hB3.cell (p := ⟨w1.heap.size, 0, none⟩) hsz).trans hS0; have hk1 := (hB3.cell (p := ⟨w1.heap.size, 1, none⟩) hsz).trans hS1))
  go_wp2
  go_ret3
  have hs2 : w.heap.size ≤ W0.heap.size := hB2.size
  exact ⟨g, cap, rfl, Nat.le_trans hs2 hg0, hg1, hgc.out, hB2.drew.trans (hB3.mono hs2)⟩

set_option maxHeartbeats 1000000 in
theorem kinds19_8 (s : ByteArray) (h : nameK s = 8) (w : World) :
    Calls Try.prog 19 #[.string s] w fun e w' => e = .returned (.tuple #[.slice none 0 0, .int .i64 0, .int .i64 6]) ∧ Below w.heap.size w w' := by
  go_enter Try.func19, Try.ntmps19
  go_wp2_with (go_at_call 37; refine (fn37_8 s h _).mono ?_; rintro e w1 ⟨rfl, hB⟩)
  go_ret3
  exact ⟨rfl, hB.alloc hB.size _⟩
end Go.Proofs.Ytmkpoaapcghohaa
