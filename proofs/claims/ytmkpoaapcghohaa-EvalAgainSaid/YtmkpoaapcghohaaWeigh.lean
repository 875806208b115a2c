/- Contract: the law's weigh: some number; of a small tree the number of its nodes. -/
import Derived.Test.YtmkpoaapcghohaaTree
namespace Go.Proofs.Ytmkpoaapcghohaa
open Go.RowKit

theorem Ex.sz_pos (x : Ex) : 1 ≤ x.sz := by rw [x.sz_eq]; omega
theorem szL_ge (xs : List Ex) : xs.length ≤ szL xs := by
  induction xs with
  | nil => simp
  | cons x xs ih => rw [szL, List.length_cons]; have := x.sz_pos; omega
theorem szTo_room (xs : List Ex) (k : Nat) : szTo xs k + (xs.length - k) ≤ szL xs := by
  unfold szTo
  have e : szL xs = szL (xs.take k) + szL (xs.drop k) := by rw [← szL_append, List.take_append_drop]
  have := szL_ge (xs.drop k)
  rw [List.length_drop] at this
  omega

def WOk (deep : Int) (xs : List Ex) (r : Int) : Prop := (htL xs : Int) + deep ≤ 60 → szL xs ≤ 2000 → r = (szL xs : Int)
def WSays (deep : Int) (xs : List Ex) (w : World) (e : Ending) (w' : World) : Prop := ∃ r, e = .returned (.int .i64 r) ∧ w = w' ∧ WOk deep xs r
def WTo (deep : Int) (xs : List Ex) (k : Nat) (r : Int) : Prop := (htL xs : Int) + deep ≤ 60 → szL xs ≤ 2000 → r = (xs.length : Int) - (k : Int) + (szTo xs k : Int)

theorem WTo.step {deep : Int} {xs : List Ex} {k : Nat} {n r : Int} (h : WTo deep xs k n) (hk : k < xs.length) (hr : WOk (deep + 1) (xs.getD k ex0).args r) : WTo deep xs (k + 1) (wrap64 (n + r)) := by
  intro h1 h2
  have e := h h1 h2
  have hz := szTo_succ hk
  have hl := szTo_le xs (k + 1)
  have hh := htL_ge hk
  have he := (xs.getD k ex0).ht_eq
  have hs := (xs.getD k ex0).sz_eq
  have hr' := hr (by omega) (by omega)
  have hg := szL_ge xs
  rw [e, hr']
  unfold wrap64
  omega
theorem WTo.done {deep : Int} {xs : List Ex} {n : Int} (h : WTo deep xs xs.length n) : WOk deep xs n := by
  intro h1 h2
  rw [h h1 h2, szTo_all]; omega
theorem WTo.out {deep : Int} {xs : List Ex} {k : Nat} {n : Int} (h : WTo deep xs k n) (hk : k < xs.length) (hn : 2000 < n) : WOk deep xs n := by
  intro h1 h2
  have e := h h1 h2
  have := szTo_room xs k
  omega
theorem WTo.start (deep : Int) (xs : List Ex) : WTo deep xs 0 xs.length := by
  intro _ _
  rw [szTo_zero]; omega

set_option maxHeartbeats 2000000 in
theorem weigh25 {w : World} {B : Nat} {xs : List Ex} {A : Option Addr} (h : Rds w B xs A) :
    ∀ (deep : Int) (c : Nat) (W : World), 0 ≤ deep → deep ≤ 61 → Same B w W → xs.length ≤ c → c ≤ maxLen →
      Calls Try.prog 25 #[.slice A xs.length c, .int .i64 deep] W (WSays deep xs W) := by
  induction h with
  | nl A =>
    intro deep c W h0 h1 _ hl hc
    simp only [List.length_nil]
    by_cases hd : 60 < deep
    · go_enter Try.func25, Try.ntmps25
      go_wp2
      go_ret
      exact ⟨_, rfl, rfl, fun h1 => by omega⟩
    · go_enter Try.func25, Try.ntmps25
      go_wp2
      go_loop [5, 6] (fun v i => v = .int .i64 0 ∧ i = .int .i64 0) (fun _ i => 1 - (intOf i).toNat)
      case atStart => exact ⟨rfl, rfl⟩
      case round =>
        obtain ⟨rfl, rfl⟩ := hrel
        go_wp2
        go_ret
        exact ⟨0, rfl, rfl, fun _ _ => by rw [szL]; rfl⟩
  | sm xs a AA cc hb hcells hfits _ ih =>
    intro deep c W h0 h1 hS hl hc
    unfold maxLen at hc
    by_cases hd : 60 < deep
    · have hh : 0 ≤ (htL xs : Int) := by omega
      go_enter Try.func25, Try.ntmps25
      go_wp2
      go_ret
      exact ⟨_, rfl, rfl, fun h1 => by omega⟩
    · have HS := hid (WTo.start deep xs)
      have HC : Hid (∀ i, i < xs.length → CellsAt W (a.add (i * 6)) (xs.getD i ex0) (AA i) (cc i)) := hid (fun i hi => (hcells i hi).to (fun q hq => hS.cell (by rw [hq, block_add]; exact hb)))
      have HF := hid hfits
      have IH : Hid (∀ i, i < xs.length → Calls Try.prog 25 #[.slice (AA i) (xs.getD i ex0).args.length (cc i), .int .i64 (deep + 1)] W (WSays (deep + 1) (xs.getD i ex0).args W)) :=
        hid (fun i hi => ih i hi (deep + 1) (cc i) W (by omega) (by omega) hS (hfits i hi).l (hfits i hi).c)
      clear ih hcells hfits hS
      go_enter Try.func25, Try.ntmps25
      go_wp2
      go_loop [5, 6] (fun v i => ∃ (k : Nat) (n : Int), k ≤ xs.length ∧ i = .int .i64 k ∧ v = .int .i64 n ∧ Hid (WTo deep xs k n)) (fun _ i => xs.length - (intOf i).toNat)
      case atStart => exact ⟨0, _, Nat.zero_le _, rfl, rfl, HS⟩
      case round =>
        clear HS
        obtain ⟨k, n, hk, rfl, rfl, HW⟩ := hrel
        by_cases hlt : k < xs.length
        · by_cases hn : n ≤ 2000
          · have hcell := (HC.out k hlt).c5
            have HI := hid (IH.out k hlt)
            have HSt : Hid (∀ r, WOk (deep + 1) (xs.getD k ex0).args r → WTo deep xs (k + 1) (wrap64 (n + r))) := hid (fun r hr => HW.out.step hlt hr)
            generalize AA k = A' at *
            generalize cc k = c' at *
            generalize xs.getD k ex0 = x at *
            go_wp2_with fail
            refine HI.out.mono ?_
            rintro e w' ⟨r, rfl, rfl, hr⟩
            have HN := hid (HSt.out r hr)
            clear HI HSt hr
            go_wp2
            go_round
            case rel => exact ⟨k + 1, _, by omega, by go_num, rfl, HN⟩
            case measure => simp [intOf]; omega
          · have hn' : 2000 < n := by omega
            have HO := hid (HW.out.out hlt hn')
            go_wp2
            go_ret
            exact ⟨_, rfl, rfl, HO.out⟩
        · obtain rfl : k = xs.length := by omega
          have HO := hid (HW.out.done)
          go_wp2
          go_ret
          exact ⟨_, rfl, rfl, HO.out⟩

end Go.Proofs.Ytmkpoaapcghohaa
