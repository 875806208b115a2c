/- Contracts: the counter's Exprs; IsExpr. -/
import Derived.Test.YtmkpoaapcghohaaCount
namespace Go.Proofs.Ytmkpoaapcghohaa
open Go.RowKit

/-- all is well up to the k-th -/
def OkTo (d : Int) (xs : List Ex) (k : Nat) : Prop := ∀ j, j < k → (xs.getD j ex0).ok = true ∧ d + ((xs.getD j ex0).ht : Int) ≤ 15
theorem OkTo.next {n d : Int} {xs : List Ex} {k : Nat} (h : OkTo d xs k) (h1 : OkOne (n + (szTo xs k : Int)) d (xs.getD k ex0)) : OkTo d xs (k + 1) := by
  intro j hj
  by_cases e : j < k
  · exact h j e
  · obtain rfl : j = k := by omega
    exact ⟨h1.1, h1.2.1⟩
theorem OkTo.all {n d : Int} {xs : List Ex} (h : OkTo d xs xs.length) (hd : d ≤ 15) (hn : n + (szTo xs xs.length : Int) ≤ 500) : OkAll n d xs := by
  refine ⟨okL_iff.2 (fun k hk => (h k hk).1), ?_, by rw [szTo_all] at hn; exact hn⟩
  have : htL xs ≤ (15 - d).toNat := htL_le (fun k hk => by have := (h k hk).2; omega)
  omega
theorem not_all {n d : Int} {xs : List Ex} {k : Nat} (hk : k < xs.length) (h : ¬ OkOne (n + (szTo xs k : Int)) d (xs.getD k ex0)) : ¬ OkAll n d xs := by
  intro ⟨h1, h2, h3⟩
  refine h ⟨okL_iff.1 h1 k hk, ?_, ?_⟩
  · have := htL_ge hk; omega
  · have := szTo_succ hk
    have := szTo_le xs (k + 1)
    omega

set_option maxHeartbeats 2000000 in
theorem exprs61 {w : World} {B : Nat} {xs : List Ex} {A : Option Addr} (h : Rds w B xs A) : ExprsDo w B xs A := by
  induction h with
  | nl A =>
    intro n d bp c W hS hB hbp hn0 hn1 hd0 hd1 hl hcm hc
    have HC := hid hc
    have HO : Hid (OkAll n d []) := hid (OkTo.all (fun j hj => absurd hj (by simp)) hd1 (by rw [szTo_all]; simp [szL]; omega))
    clear hc hS
    simp only [List.length_nil]
    go_enter Try.func61, Try.ntmps61
    go_wp2
    go_loop [11] (fun i => i = .int .i64 0) (fun i => 1 - (intOf i).toNat)
    case atStart => exact rfl
    case round =>
      obtain rfl := hrel
      go_wp2
      go_ret
      exact ⟨true, n, rfl, HC.out, grown_refl _ _, fun _ => ⟨HO.out, by rw [szL]; simp⟩, (fun e => by cases e)⟩
  | sm xs a AA cc hb hcells hfits _ ih =>
    intro n d bp c W hS hB hbp hn0 hn1 hd0 hd1 hl hcm hc
    have hl' : xs.length ≤ 9223372036854775807 := by unfold maxLen at hcm; omega
    have HW := hid hcells
    have HF := hid hfits
    have IH := hid ih
    have HS := hid hS
    have HC := hid hc
    clear hcells hfits ih hS hc hl
    go_enter Try.func61, Try.ntmps61
    go_wp2
    go_loopw [11] (fun i wr => ∃ k : Nat, k ≤ xs.length ∧ i = .int .i64 k ∧ Hid (Cnt wr bp (n + (szTo xs k : Int))) ∧ Hid (W.grownBy wr (some bp)) ∧ Hid (OkTo d xs k) ∧ n + (szTo xs k : Int) ≤ 500)
      (fun i _ => xs.length - (intOf i).toNat)
    case atStart => exact ⟨0, Nat.zero_le _, rfl, hid (by rw [szTo_zero]; simpa using HC.out), hid (grown_refl _ _), hid (fun j hj => absurd hj (by omega)), by rw [szTo_zero]; simpa using hn1⟩
    case round =>
      clear HC
      obtain ⟨k, hk, rfl, HC, HG, HO, hle⟩ := hrel
      have hbr : bp < wr.heap.size := Nat.lt_of_lt_of_le hbp HG.out.size
      by_cases hlt : k < xs.length
      · have hSr := HS.out.trans (grown_same HG.out hB hbp)
        have HX := (HW.out k hlt).to (w' := wr) (fun q hq => hSr.cell (by rw [hq, block_add]; exact hb))
        have HFk := HF.out k hlt
        have HIk := IH.out k hlt
        have HD := hid (fun (W' : World) hS' hb' hc' => expr49 w B (xs.getD k ex0) (AA k) (cc k) HFk HIk (n + (szTo xs k : Int)) d bp W' hS' hB hb' (by omega) hle hd0 hc')
        have HNO : Hid (¬ OkOne (n + (szTo xs k : Int)) d (xs.getD k ex0) → ¬ OkAll n d xs) := hid (fun h => not_all hlt h)
        have HNX : Hid (OkOne (n + (szTo xs k : Int)) d (xs.getD k ex0) → OkTo d xs (k + 1) ∧ n + (szTo xs (k + 1) : Int) = n + (szTo xs k : Int) + ((xs.getD k ex0).sz : Int) ∧ n + (szTo xs (k + 1) : Int) ≤ 500) :=
          hid (fun h => ⟨HO.out.next h, by rw [szTo_succ hlt]; omega, by have := h.2.2; rw [szTo_succ hlt]; omega⟩)
        clear HFk HIk
        generalize hm : n + (szTo xs k : Int) = m at *
        generalize AA k = A' at *
        generalize cc k = c' at *
        generalize xs.getD k ex0 = x at *
        have HM := hid hm
        clear hm
        obtain ⟨k0, k1, k2, k3, k4, k5⟩ := HX
        have HSr := hid hSr
        clear hSr
        have HG2 : Hid (W.grownBy (wr.alloc (.cells #[.int .i64 x.op, .int .i64 x.kind, .int .i64 x.n, .string x.s, .string x.f, .slice A' x.args.length c'] 49)) (some bp)) := hid (grown_trans HG.out (grown_alloc _ _ _))
        have HE := hid (HD.out (wr.alloc (.cells #[.int .i64 x.op, .int .i64 x.kind, .int .i64 x.n, .string x.s, .string x.f, .slice A' x.args.length c'] 49)) (HS.out.trans (grown_same HG2.out hB hbp)) (Nat.lt_of_lt_of_le hbp HG2.out.size) (cnt_alloc HC.out hbr _))
        clear HD
        go_wp2_with fail
        refine HE.out.mono ?_
        rintro e w2 hE
        obtain ⟨b, m2, rfl, hc2, hg2, ht, hf⟩ := hE
        have HC2 := hid hc2
        have HG3 := hid (grown_trans HG2.out hg2)
        have HT := hid ht
        have HF2 := hid hf
        clear hc2 hg2 ht hf HE
        cases b
        · go_wp2
          go_ret
          exact ⟨false, m2, rfl, HC2.out, HG3.out, (fun e => by cases e), fun _ => HNO.out (HF2.out (by simp))⟩
        · obtain ⟨t1, t2⟩ := HT.out rfl
          obtain ⟨u1, u2, u3⟩ := HNX.out t1
          have HC3 : Hid (Cnt w2 bp (n + (szTo xs (k + 1) : Int))) := hid (by rw [u2, ← t2]; exact HC2.out)
          have HU := hid u1
          clear t1 t2 u1 u2 HT HNX HNO HF2 HC2
          go_wp2
          go_roundw
          case rel => exact ⟨k + 1, by omega, by go_num, HC3, HG3, HU, u3⟩
          case measure => simp [intOf]; omega
      · obtain rfl : k = xs.length := by omega
        have HA := hid (HO.out.all hd1 hle)
        go_wp2
        go_ret
        exact ⟨true, _, rfl, HC.out, HG.out, fun _ => ⟨HA.out, by rw [szTo_all]⟩, (fun e => by cases e)⟩

/-- a well formed expression -/
def WellX (x : Ex) : Prop := OkOne 0 1 x
noncomputable def wellB (x : Ex) : Bool := @decide (WellX x) (Classical.propDecidable _)
theorem wellB_true {x : Ex} (h : WellX x) : wellB x = true := by unfold wellB; exact @decide_eq_true _ (Classical.propDecidable _) h
theorem wellB_false {x : Ex} (h : ¬ WellX x) : wellB x = false := by unfold wellB; exact @decide_eq_false _ (Classical.propDecidable _) h
theorem wellX_of {x : Ex} (h : wellB x = true) : WellX x := by
  rcases Classical.em (WellX x) with h1 | h1
  · exact h1
  · rw [wellB_false h1] at h; cases h

set_option maxHeartbeats 1000000 in
theorem isExpr40 (x : Ex) (A : Option Addr) (c : Nat) (w : World) (hf : Fits x c) (hr : Rds w w.heap.size x.args A) :
    Calls Try.prog 40 #[.agg #[.int .i64 x.op, .int .i64 x.kind, .int .i64 x.n, .string x.s, .string x.f, .slice A x.args.length c]] w fun e w' => e = .returned (.bool (wellB x)) ∧ Below w.heap.size w w' := by
  have HE : ∀ W : World, Same w.heap.size w W → w.heap.size + 1 < W.heap.size → Cnt W (w.heap.size + 1) 0 → Hid (Calls Try.prog 49 #[.pointer (some ⟨w.heap.size + 1, 0, none⟩), .agg #[.int .i64 x.op, .int .i64 x.kind, .int .i64 x.n, .string x.s, .string x.f, .slice A x.args.length c], .int .i64 1] W (ExprSays 0 1 x (w.heap.size + 1) W)) :=
    fun W hS hb hc => hid (expr49 w w.heap.size x A c hf (exprs61 hr) 0 1 (w.heap.size + 1) W hS (by omega) hb (by omega) (by omega) (by omega) hc)
  replace HE := hid HE
  clear hr hf
  generalize hwb : wellB x = wb
  have HWB := hid hwb
  clear hwb
  go_enter Try.func40, Try.ntmps40
  go_wp2_with fail
  have hB : Below w.heap.size w ((w.alloc (.cells #[.int .i64 x.op, .int .i64 x.kind, .int .i64 x.n, .string x.s, .string x.f, .slice A x.args.length c] 49)).alloc (.cells #[.int .i64 0, .int .i64 0] 73)) :=
    ((Below.refl _ _).alloc (Nat.le_refl _) _).alloc (by simp) _
  refine ((HE.out _ (Same.of_below hB (Nat.le_refl _)) (by simp) ⟨by simp, ⟨0, by simp⟩, by simp, by simp⟩).out).mono ?_
  rintro e w2 hE
  obtain ⟨b, m, rfl, hc, hg, ht, hf⟩ := hE
  have hb : Hid (b = wb) := hid (by
    rw [← HWB.out]
    cases b
    · exact (wellB_false (hf rfl)).symm
    · exact (wellB_true (ht rfl).1).symm)
  have hB2 : Hid (Below w.heap.size w w2) := hid (hB.grown hg (by simp; omega) (fun k e => by cases e; omega))
  clear hc hg ht hf hB HE
  go_wp2
  go_ret
  exact ⟨retBool hb.out, hB2.out⟩

end Go.Proofs.Ytmkpoaapcghohaa
