/- An expression that came in, read as a tree. -/
import Derived.Test.YtmkpoaapcghohaaTree
import Derived.ProofKit
import Derived.ChangeOld
import Derived.DataReads
import Derived.WideShapes
import Derived.ChangeMaps
namespace Go.Proofs.Ytmkpoaapcghohaa
open Go.RowKit Go.WideShapes

theorem cells49 : Try.prog.cellsOf 49 = 6 := by kernel_rfl
theorem cells3 : Try.prog.cellsOf 3 = 1 := by kernel_rfl
theorem cells9 : Try.prog.cellsOf 9 = 1 := by kernel_rfl
theorem cells47 : Try.prog.cellsOf 47 = 1 := by kernel_rfl
theorem list6 {α : Type} {xs : List α} (h : xs.length = 6) : ∃ a b c d e f, xs = [a, b, c, d, e, f] := by
  match xs, h with
  | [a, b, c, d, e, f], _ => exact ⟨a, b, c, d, e, f, rfl⟩
theorem add_pos (p : Addr) (n : Nat) : p.add (n + 1) = ⟨p.block, p.off + (n + 1), none⟩ := by unfold Addr.add; split <;> simp_all

theorem open_ex {H : Type} {enc : TypeId × Value → H} {w : World} {base : Nat} {spare : Nat → Bool} {held : Bool} (m : Nat) : ∀ (fuel : Nat), fuel ≤ m → ∀ (cs : List Value) (x : DataW H × List MemPlace), DataW.trod enc Try.prog w base spare held fuel 49 cs = some x →
    ∃ (y : Ex) (A : Option Addr) (c : Nat), cs = [.int .i64 y.op, .int .i64 y.kind, .int .i64 y.n, .string y.s, .string y.f, .slice A y.args.length c] ∧ Fits y c ∧ Rds w w.heap.size y.args A := by
  induction m with
  | zero =>
    intro fuel hm cs x h
    obtain ⟨xs, n, hf, _⟩ := DataW.trod_struct Try.underlying49 h
    omega
  | succ m ih =>
    intro fuel hm cs x h
    obtain ⟨xs, n, hf, _, hl, hxl, hfs⟩ := DataW.trod_struct Try.underlying49 h
    rw [cells49] at hl
    obtain ⟨c0, c1, c2, c3, c4, c5, rfl⟩ := list6 hl
    obtain ⟨y0, y1, y2, y3, y4, y5, rfl⟩ := list6 (show xs.length = 6 from hxl)
    have h0 := hfs 0 _ rfl
    have h1 := hfs 1 _ rfl
    have h2 := hfs 2 _ rfl
    have h3 := hfs 3 _ rfl
    have h4 := hfs 4 _ rfl
    have h5 := hfs 5 _ rfl
    simp only [List.getElem?_cons_zero, List.getElem?_cons_succ] at h0 h1 h2 h3 h4 h5
    obtain ⟨v0, e0, _, _⟩ := DataW.trod_int Try.underlying3 h0
    obtain ⟨v1, e1, _, _⟩ := DataW.trod_int Try.underlying3 h1
    obtain ⟨v2, e2, _, _⟩ := DataW.trod_int Try.underlying3 h2
    obtain ⟨v3, e3, _, w3⟩ := DataW.trod_string Try.underlying9 h3
    obtain ⟨v4, e4, _, w4⟩ := DataW.trod_string Try.underlying9 h4
    obtain rfl := List.singleton_inj.1 e0
    obtain rfl := List.singleton_inj.1 e1
    obtain rfl := List.singleton_inj.1 e2
    obtain rfl := List.singleton_inj.1 e3
    obtain rfl := List.singleton_inj.1 e4
    rcases DataW.trod_slice Try.underlying47 h5 with ⟨e5, _⟩ | ⟨a, len, cap, elems, rest, n', hn', e5, _, hb, hlc, hcm, hlen, hel, _, _⟩
    · obtain rfl := List.singleton_inj.1 e5
      exact ⟨⟨v0, v1, v2, v3, v4, []⟩, none, 0, rfl, ⟨w3, w4, Nat.le_refl _, by simp [maxLen]⟩, .nl none⟩
    · obtain rfl := List.singleton_inj.1 e5
      rw [cells49] at hel
      have key : ∀ i, ∃ q : Ex × Option Addr × Nat, i < len → (CellsAt w (a.add (i * 6)) q.1 q.2.1 q.2.2 ∧ Fits q.1 q.2.2 ∧ Rds w w.heap.size q.1.args q.2.1 ∧ a.block < w.heap.size) := by
        intro i
        by_cases hi : i < len
        · have hk := hel i hi
          rw [List.getElem?_eq_getElem (by omega)] at hk
          obtain ⟨cs', g1, g2⟩ := Option.bind_eq_some_iff.1 hk
          obtain ⟨y, A, c, e, hf, hr⟩ := ih n' (by omega) cs' _ g2
          have hbl := World.cells?_block g1 (by omega)
          obtain ⟨_, _, hc⟩ := World.cells?_some g1
          subst e
          refine ⟨(y, A, c), fun _ => ⟨⟨?_, ?_, ?_, ?_, ?_, ?_⟩, hf, hr, by rw [← block_add a (i * 6)]; exact hbl⟩⟩
          · have := hc 0 (by omega); simpa [Addr.add] using this
          · have := hc 1 (by omega); rw [add_pos] at this; simpa using this
          · have := hc 2 (by omega); rw [add_pos] at this; simpa using this
          · have := hc 3 (by omega); rw [add_pos] at this; simpa using this
          · have := hc 4 (by omega); rw [add_pos] at this; simpa using this
          · have := hc 5 (by omega); rw [add_pos] at this; simpa using this
        · exact ⟨(ex0, none, 0), fun h => absurd h hi⟩
      obtain ⟨F, hF⟩ := Classical.axiomOfChoice key
      have hl2 : ((List.range len).map fun i => (F i).1).length = len := by simp
      have hg : ∀ i, i < len → ((List.range len).map fun i => (F i).1).getD i ex0 = (F i).1 := fun i hi => by simp [List.getD, hi]
      refine ⟨⟨v0, v1, v2, v3, v4, (List.range len).map fun i => (F i).1⟩, some a, cap, by simp, ⟨w3, w4, by simp only [hl2]; exact hlc, hcm⟩, ?_⟩
      by_cases h0 : len = 0
      · have : ((List.range len).map fun i => (F i).1) = [] := by rw [h0]; rfl
        simp only [this]
        exact .nl _
      · refine .sm _ a (fun i => (F i).2.1) (fun i => (F i).2.2) (hF 0 (by omega)).2.2.2 (fun i hi => ?_) (fun i hi => ?_) (fun i hi => ?_)
        all_goals (simp only [hl2] at hi; simp only [hg i hi])
        · exact (hF i hi).1
        · exact (hF i hi).2.1
        · exact (hF i hi).2.2.1
end Go.Proofs.Ytmkpoaapcghohaa
