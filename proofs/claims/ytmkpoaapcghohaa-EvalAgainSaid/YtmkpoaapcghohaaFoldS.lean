/- Contract: eval.constants. -/
import Derived.Test.YtmkpoaapcghohaaFoldR
import Derived.Test.YtmkpoaapcghohaaKinds
import Derived.Maps.AppendAt
import Derived.OwnWalk
namespace Go.Proofs.Ytmkpoaapcghohaa
open Go.RowKit

theorem ints_succ (k : Nat) (ns : List Int) : ints (k + 1) ns = ints k ns ++ [.int .i64 (ns.getD k 0)] := by
  unfold ints; rw [List.range_succ, List.map_append]; rfl
theorem cst_none {q : Int} {x : Ex} {xs : List Ex} {k : Nat} (h : cst 0 xs = cst q (xs.drop k)) (hk : k < xs.length) (hx : xs.getD k ex0 = x) (h1 : x.op ≠ 1 ∨ (q ≠ 0 ∧ x.kind ≠ q)) : cst 0 xs = none := by
  rw [h, List.drop_eq_getElem_cons hk]
  have e : xs[k] = x := by rw [← hx]; simp [List.getD, hk]
  rw [cst, e, if_pos h1]
theorem cst_next {q : Int} {x : Ex} {xs : List Ex} {k : Nat} (h : cst 0 xs = cst q (xs.drop k)) (hk : k < xs.length) (hx : xs.getD k ex0 = x) (h1 : ¬ (x.op ≠ 1 ∨ (q ≠ 0 ∧ x.kind ≠ q))) : cst 0 xs = cst x.kind (xs.drop (k + 1)) := by
  rw [h, List.drop_eq_getElem_cons hk]
  have e : xs[k] = x := by rw [← hx]; simp [List.getD, hk]
  rw [cst, e, if_neg h1]
def numsOf (xs : List Ex) : List Int := xs.map (·.n)
theorem nums_at {xs : List Ex} {k : Nat} (h : k < xs.length) {x : Ex} (hx : xs.getD k ex0 = x) : (numsOf xs).getD k 0 = x.n := by
  unfold numsOf; rw [← hx]; simp [List.getD, h]
theorem cell_one_at (w : World) (x : Value) (t : TypeId) (g : Nat) (hg : g = w.heap.size) : ∀ j u, [x][j]? = some u → (w.alloc (.cells #[x] t)).cell? ((⟨g, 0, none⟩ : Addr).add j) = some u := by subst hg; exact cell_one_new w x t
theorem one_cell_int (n : Int) : ∀ u ∈ [Value.int .i64 n], u.oneCell' = true := by intro u hu; simp at hu; subst hu; rfl
/-- the state between two rounds -/
structure CstTo (xs : List Ex) (k : Nat) (q : Int) : Prop where
  c : cst 0 xs = cst q (xs.drop k)
  z : k = 0 → q = 0
  p : 0 < k → 1 ≤ q ∧ q ≤ 3
theorem CstTo.next {xs : List Ex} {k : Nat} {q : Int} {x : Ex} (h : CstTo xs k q) (hk : k < xs.length) (hx : xs.getD k ex0 = x) (h1 : ¬ (x.op ≠ 1 ∨ (q ≠ 0 ∧ x.kind ≠ q))) (hg : Gc x) : CstTo xs (k + 1) x.kind :=
  ⟨cst_next h.c hk hx h1, fun e => by omega, fun _ => by
    have := constB_iff.1 (hg (by omega)); omega⟩
def CstSays (xs : List Ex) (w : World) (e : Ending) (w' : World) : Prop :=
  (cst 0 xs = none ∧ e = .returned (.tuple #[.int .i64 0, .slice none 0 0, .bool false]) ∧ Below w.heap.size w w') ∨
  (∃ q g cap, cst 0 xs = some q ∧ 1 ≤ q ∧ q ≤ 3 ∧ e = .returned (.tuple #[.int .i64 q, .slice (some ⟨g, 0, none⟩) xs.length cap, .bool true]) ∧ w.heap.size ≤ g ∧ g < w'.heap.size ∧
    (∀ i, i < xs.length → w'.cell? ⟨g, i, none⟩ = some (.int .i64 ((numsOf xs).getD i 0))) ∧ Below w.heap.size w w')
theorem CstSays.no {xs : List Ex} {w w' : World} (h : cst 0 xs = none) (hb : Below w.heap.size w w') : CstSays xs w (.returned (.tuple #[.int .i64 0, .slice none 0 0, .bool false])) w' := .inl ⟨h, rfl, hb⟩
theorem CstTo.yes {xs : List Ex} {q : Int} {w w' : World} {v : Value} (h : CstTo xs xs.length q) (h0 : 0 < xs.length) (hown : w'.ownsRow w.heap.size 3 1 v xs.length (ints xs.length (numsOf xs))) (hb : Below w.heap.size w w') :
    CstSays xs w (.returned (.tuple #[.int .i64 q, v, .bool true])) w' := by
  obtain ⟨g, cap, rfl, hg0, hg1, hc⟩ := own_res hown h0
  have hp := h.p h0
  refine .inr ⟨q, g, cap, ?_, hp.1, hp.2, rfl, hg0, hg1, hc, hb⟩
  rw [h.c, List.drop_length]; rfl
theorem own_next {w : World} {B k : Nat} {v : Value} {xs : List Ex} {n : Int} (h : w.ownsRow B 3 1 v (k + 1) (ints k (numsOf xs) ++ [.int .i64 n])) (hk : k < xs.length) {x : Ex} (hx : xs.getD k ex0 = x) (hn : x.n = n) : w.ownsRow B 3 1 v (k + 1) (ints (k + 1) (numsOf xs)) := by
  rw [ints_succ, nums_at hk hx, hn]; exact h

set_option maxHeartbeats 4000000 in
theorem constants50 (xs : List Ex) (A : Option Addr) (c : Nat) (W : World) (h : Rds W W.heap.size xs A) (h0 : 0 < xs.length) (_hl : xs.length ≤ c) (_hcm : c ≤ maxLen) (hm : xs.length ≤ 1000) (hg : ∀ k, k < xs.length → Gc (xs.getD k ex0)) :
    Calls Try.prog 50 #[.slice A xs.length c] W (CstSays xs W) := by
  have hl' : xs.length ≤ 9223372036854775807 := by omega
  have HR := hid h
  have HG := hid hg
  obtain ⟨i0, hi, hz0, hz1, hz2⟩ := info_parts info3
  have HT0 : Hid (CstTo xs 0 0) := hid ⟨rfl, fun _ => rfl, fun e => by omega⟩
  have HO0 : Hid (W.ownsRow W.heap.size 3 1 (.slice none 0 0) 0 (ints 0 (numsOf xs))) := hid (World.ownsRow_nil _ _ _ _)
  clear h hg
  go_enter Try.func50, Try.ntmps50
  go_wp2
  go_loopw [5, 6, 11] (fun qv v i wr => ∃ (k : Nat) (q : Int), k ≤ xs.length ∧ i = .int .i64 k ∧ qv = .int .i64 q ∧ Hid (CstTo xs k q) ∧ Hid (wr.ownsRow W.heap.size 3 1 v k (ints k (numsOf xs))) ∧ Hid (Below W.heap.size W wr))
    (fun _ _ i _ => xs.length - (intOf i).toNat)
  case atStart => exact ⟨0, 0, Nat.zero_le _, rfl, rfl, HT0, HO0, hid (Below.refl _ _)⟩
  case round =>
    clear HT0 HO0
    obtain ⟨k, q, hk, rfl, rfl, HT, HO, HB⟩ := hrel
    by_cases hlt : k < xs.length
    · obtain ⟨b, B', c2, rfl, hbb, hX, hF, hR2⟩ := HR.out.get hlt
      have hX2 := hX.to (w' := wr) (fun q hq => HB.out.cell (by rw [hq, block_add]; exact hbb))
      have HGx := hid (HG.out k hlt)
      have hq0 : (0 : Int) ≤ (k : Int) := by omega
      have hq1 : (k : Int) < (xs.length : Int) := by omega
      clear hX hF hR2 HG
      generalize hx : xs.getD k ex0 = x at *
      obtain ⟨op, kind, n, s, f, args⟩ := x
      have HX := hid hx
      clear hx
      obtain ⟨k0, k1, k2, k3, k4, k5⟩ := hX2
      simp only at k0 k1 k2 k3 k4 k5
      by_cases h1 : op = 1
      · subst h1
        have hsz := HB.out.size
        by_cases hq : q = 0
        · subst hq
          have HT2 := hid (HT.out.next hlt HX.out (by simp) HGx.out)
          go_wp2_with (first | (at_builtin; refine wpList_append_own _ rfl (.tmp 30) (.tmp 33) 38 rfl W.heap.size 3 i0 (.int .i64 0) 1 8 Try.underlying38 hi hz0 hz1 hz2 rfl (by decide) _ k (ints k (numsOf xs)) rfl ((HO.out.alloc _).alloc _) ⟨wr.heap.size + 1, 0, none⟩ 1 1 [.int .i64 n] rfl rfl (cell_one_at _ _ _ _ (by simp)) (one_cell_int n) (by unfold maxLen; omega) (by omega) (by simp; omega) ?_))
          intro v' w1 hown hgrow _
          have HO2 : Hid (w1.ownsRow W.heap.size 3 1 v' (k + 1) (ints (k + 1) (numsOf xs))) := hid (own_next hown hlt HX.out rfl)
          have HB2 : Hid (Below W.heap.size W w1) := hid (((HB.out.alloc HB.out.size _).alloc (by simp; omega) _).grown hgrow (by simp; omega) (fun g e => (HO.out.lt g e).1))
          clear hown hgrow HO HB HT
          go_wp2
          go_roundw
          case rel => exact ⟨k + 1, kind, by omega, by go_num, rfl, HT2, HO2, HB2⟩
          case measure => simp [intOf]; omega
        · have hqb : (q != 0) = true := by simp [hq]
          by_cases hkq : kind = q
          · subst hkq
            have HT2 := hid (HT.out.next hlt HX.out (by simp) HGx.out)
            clear hq
            go_wp2_with (first | (at_builtin; refine wpList_append_own _ rfl (.tmp 30) (.tmp 33) 38 rfl W.heap.size 3 i0 (.int .i64 0) 1 8 Try.underlying38 hi hz0 hz1 hz2 rfl (by decide) _ k (ints k (numsOf xs)) rfl ((HO.out.alloc _).alloc _) ⟨wr.heap.size + 1, 0, none⟩ 1 1 [.int .i64 n] rfl rfl (cell_one_at _ _ _ _ (by simp)) (one_cell_int n) (by unfold maxLen; omega) (by omega) (by simp; omega) ?_))
            intro v' w1 hown hgrow _
            have HO2 : Hid (w1.ownsRow W.heap.size 3 1 v' (k + 1) (ints (k + 1) (numsOf xs))) := hid (own_next hown hlt HX.out rfl)
            have HB2 : Hid (Below W.heap.size W w1) := hid (((HB.out.alloc HB.out.size _).alloc (by simp; omega) _).grown hgrow (by simp; omega) (fun g e => (HO.out.lt g e).1))
            clear hown hgrow HO HB HT
            go_wp2
            go_roundw
            case rel => exact ⟨k + 1, kind, by omega, by go_num, rfl, HT2, HO2, HB2⟩
            case measure => simp [intOf]; omega
          · have hkb : (kind != q) = true := by simp [hkq]
            have HN := hid (CstSays.no (w' := wr.alloc (.cells #[.int .i64 1, .int .i64 kind, .int .i64 n, .string s, .string f, .slice B' args.length c2] 49)) (cst_none HT.out.c hlt HX.out (.inr ⟨hq, hkq⟩)) (HB.out.alloc HB.out.size _))
            clear HT HO HB HGx hkq hq
            go_wp2
            go_ret3
            exact HN.out
      · have HN := hid (CstSays.no (w' := wr.alloc (.cells #[.int .i64 op, .int .i64 kind, .int .i64 n, .string s, .string f, .slice B' args.length c2] 49)) (cst_none HT.out.c hlt HX.out (.inl h1)) (HB.out.alloc HB.out.size _))
        have hb1 : (op != 1) = true := by simp [h1]
        clear HT HO HB HGx h1
        go_wp2
        go_ret3
        exact HN.out
    · obtain rfl : k = xs.length := by omega
      have hp := HT.out.p h0
      have HZ : Hid ((q != 0) = true) := hid (by simp; omega)
      have HN := hid (HT.out.yes h0 HO.out HB.out)
      clear HT HO HB hp
      go_wp2
      go_ret3
      show CstSays xs W (.returned (.tuple #[.int .i64 q, _, .bool (q != 0)])) _
      rw [HZ.out]
      exact HN.out
end Go.Proofs.Ytmkpoaapcghohaa
