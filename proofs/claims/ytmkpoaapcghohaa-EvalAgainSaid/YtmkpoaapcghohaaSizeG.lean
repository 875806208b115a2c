/- Contracts: the reference's Size.Exprs; WellExpr. -/
import Derived.Test.YtmkpoaapcghohaaSizeF
namespace Go.Proofs.Ytmkpoaapcghohaa
open Go.RowKit

/-- the state between two rounds -/
structure SzTo (n d : Int) (b : Bool) (xs : List Ex) (k : Nat) (t : Bool) (m : Int) : Prop where
  m0 : 0 ≤ m
  m1 : m ≤ 501
  ok : t = false → b = false ∧ OkTo d xs k ∧ m = n + (szTo xs k : Int) ∧ m ≤ 500
  no : t = true → ¬ (b = false ∧ OkAll n d xs)

set_option maxHeartbeats 2000000 in
theorem sexprs55 {w : World} {B : Nat} {xs : List Ex} {A : Option Addr} (h : Rds w B xs A) : SzExprsDo w B xs A := by
  induction h with
  | nl A =>
    intro n d b bp c W hS hB hbp hn0 hn1 hnb hd0 hd1 hl hcm hc
    have HC := hid hc
    have HO : Hid (b = false → OkAll n d []) := hid (fun hb => OkTo.all (fun j hj => absurd hj (by simp)) (hnb hb).2 (by rw [szTo_all]; have := (hnb hb).1; simp [szL]; omega))
    clear hc hS hnb
    simp only [List.length_nil]
    go_enter Try.func55, Try.ntmps55
    go_wp2
    go_loop [6] (fun i => i = .int .i64 0) (fun i => 1 - (intOf i).toNat)
    case atStart => exact rfl
    case round =>
      obtain rfl := hrel
      go_wp2
      go_end0
      exact ⟨rfl, b, n, HC.out, grown_refl _ _, hn0, hn1, ⟨fun h => ⟨h, HO.out h⟩, fun h => h.1⟩, fun _ => by rw [szL]; simp⟩
  | sm xs a AA cc hb hcells hfits _ ih =>
    intro n d b bp c W hS hB hbp hn0 hn1 hnb hd0 hd1 hl hcm hc
    have hl' : xs.length ≤ 9223372036854775807 := by unfold maxLen at hcm; omega
    have HW := hid hcells
    have HF := hid hfits
    have IH := hid ih
    have HS := hid hS
    have HC := hid hc
    have HNB := hid hnb
    have HT0 : Hid (SzTo n d b xs 0 b n) := hid ⟨hn0, hn1, fun h => ⟨h, fun j hj => absurd hj (by omega), by rw [szTo_zero]; simp, (hnb h).1⟩, fun h h2 => by rw [h2.1] at h; cases h⟩
    clear hcells hfits ih hS hc hl hnb
    go_enter Try.func55, Try.ntmps55
    go_wp2
    go_loopw [6] (fun i wr => ∃ (k : Nat) (t : Bool) (m : Int), k ≤ xs.length ∧ i = .int .i64 k ∧ Hid (Sz wr bp m t) ∧ Hid (W.grownBy wr (some bp)) ∧ Hid (SzTo n d b xs k t m))
      (fun i _ => xs.length - (intOf i).toNat)
    case atStart => exact ⟨0, b, n, Nat.zero_le _, rfl, HC, hid (grown_refl _ _), HT0⟩
    case round =>
      clear HC HT0
      obtain ⟨k, t, m, hk, rfl, HC, HG, HT⟩ := hrel
      have hwb := HC.out.b
      by_cases hlt : k < xs.length
      · cases t
        · obtain ⟨hbf, ho, hm, hm5⟩ := HT.out.ok rfl
          have hd15 := (HNB.out hbf).2
          have hbr : bp < wr.heap.size := Nat.lt_of_lt_of_le hbp HG.out.size
          have hSr := HS.out.trans (grown_same HG.out hB hbp)
          have HX := (HW.out k hlt).to (w' := wr) (fun q hq => hSr.cell (by rw [hq, block_add]; exact hb))
          have HFk := HF.out k hlt
          have HIk := IH.out k hlt
          have hm0 := HT.out.m0
          have HD := hid (fun (W' : World) hS' hb' hc' => sexpr42 w B (xs.getD k ex0) (AA k) (cc k) HFk HIk m d bp W' hS' hB hb' hm0 hm5 hd0 hd15 hc')
          have HNX : Hid (∀ (t' : Bool) (m' : Int), 0 ≤ m' → m' ≤ 501 → (t' = false ↔ OkOne m d (xs.getD k ex0)) → (t' = false → m' = m + ((xs.getD k ex0).sz : Int)) → SzTo n d b xs (k + 1) t' m') := hid (by
            intro t' m' h0 h1 hiff hmm
            refine ⟨h0, h1, fun ht => ?_, fun ht h2 => ?_⟩
            · have h3 := hiff.1 ht
              have h4 := hmm ht
              rw [hm] at h3
              refine ⟨hbf, ho.next h3, ?_, ?_⟩
              · rw [szTo_succ hlt]; omega
              · have := h3.2.2; omega
            · have h3 : ¬ OkOne m d (xs.getD k ex0) := fun h => by rw [hiff.2 h] at ht; cases ht
              rw [hm] at h3
              exact not_all hlt h3 h2.2)
          clear HFk HIk ho hm hbf hd15
          generalize AA k = A' at *
          generalize cc k = c' at *
          generalize xs.getD k ex0 = x at *
          obtain ⟨k0, k1, k2, k3, k4, k5⟩ := HX
          have HE := hid (HD.out wr hSr hbr HC.out)
          clear HD hSr
          go_wp2_with fail
          refine HE.out.mono ?_
          rintro e w2 hE
          obtain ⟨rfl, t', m', hc2, hg2, h0, h1, hiff, hmm⟩ := hE
          have HC2 := hid hc2
          have HG2 := hid (grown_trans HG.out hg2)
          have HT2 := hid (HNX.out t' m' h0 h1 hiff hmm)
          clear hc2 hg2 hiff hmm h0 h1 HNX HE
          go_wp2
          go_roundw
          case rel => exact ⟨k + 1, t', m', by omega, by go_num, HC2, HG2, HT2⟩
          case measure => simp [intOf]; omega
        · go_wp2
          go_end0
          exact ⟨rfl, true, m, HC.out, HG.out, HT.out.m0, HT.out.m1, ⟨(fun h => by cases h), fun h => absurd h (HT.out.no rfl)⟩, (fun h => by cases h)⟩
      · obtain rfl : k = xs.length := by omega
        go_wp2
        go_end0
        refine ⟨rfl, t, m, HC.out, HG.out, HT.out.m0, HT.out.m1, ⟨fun h => ?_, fun h => ?_⟩, fun h => ?_⟩
        · obtain ⟨h1, h2, h3, h4⟩ := HT.out.ok h
          exact ⟨h1, h2.all (HNB.out h1).2 (by omega)⟩
        · cases t
          · rfl
          · exact absurd h (HT.out.no rfl)
        · rw [(HT.out.ok h).2.2.1, szTo_all]

set_option maxHeartbeats 1000000 in
theorem well27 (x : Ex) (A : Option Addr) (c : Nat) (w : World) (hf : Fits x c) (hr : Rds w w.heap.size x.args A) :
    Calls Try.prog 27 #[.agg #[.int .i64 x.op, .int .i64 x.kind, .int .i64 x.n, .string x.s, .string x.f, .slice A x.args.length c]] w fun e w' => e = .returned (.bool (wellB x)) ∧ Below w.heap.size w w' := by
  have HE : Hid (∀ W : World, Same w.heap.size w W → w.heap.size + 1 < W.heap.size → Sz W (w.heap.size + 1) 0 false → Calls Try.prog 42 #[.pointer (some ⟨w.heap.size + 1, 0, none⟩), .agg #[.int .i64 x.op, .int .i64 x.kind, .int .i64 x.n, .string x.s, .string x.f, .slice A x.args.length c], .int .i64 1] W (SzExprSays 0 1 x (w.heap.size + 1) W)) :=
    hid (fun W hS hb hc => sexpr42 w w.heap.size x A c hf (sexprs55 hr) 0 1 (w.heap.size + 1) W hS (by omega) hb (by omega) (by omega) (by omega) (by omega) hc)
  clear hr hf
  generalize hwb : wellB x = wb
  have HWB := hid hwb
  clear hwb
  go_enter Try.func27, Try.ntmps27
  go_wp2_with fail
  have hB : Below w.heap.size w ((w.alloc (.cells #[.int .i64 x.op, .int .i64 x.kind, .int .i64 x.n, .string x.s, .string x.f, .slice A x.args.length c] 49)).alloc (.cells #[.int .i64 0, .int .i64 0, .bool false] 67)) :=
    ((Below.refl _ _).alloc (Nat.le_refl _) _).alloc (by simp) _
  refine (HE.out _ (Same.of_below hB (Nat.le_refl _)) (by simp) ⟨by simp, ⟨0, by simp⟩, by simp, by simp, by simp, by simp⟩).mono ?_
  rintro e w2 hE
  obtain ⟨rfl, b, m, hc, hg, _, _, hiff, _⟩ := hE
  have hb : Hid ((!b) = wb) := hid (by
    rw [← HWB.out]
    cases b
    · exact (wellB_true (hiff.1 rfl)).symm
    · exact (wellB_false (fun h => by have := hiff.2 h; cases this)).symm)
  have hB2 : Hid (Below w.heap.size w w2) := hid (hB.grown hg (by simp; omega) (fun k e => by cases e; omega))
  have hcb := hc.b
  clear hc hg hiff hB HE
  go_wp2
  go_ret
  exact ⟨retBool hb.out, hB2.out⟩
end Go.Proofs.Ytmkpoaapcghohaa
