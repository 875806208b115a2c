/- Contracts: SameExpr and SameExprs of two readings of one expression. -/
import Derived.Test.YtmkpoaapcghohaaSizeG
namespace Go.Proofs.Ytmkpoaapcghohaa
open Go.RowKit

def TrueBelow (w : World) (e : Ending) (w' : World) : Prop := e = .returned (.bool true) ∧ Below w.heap.size w w'
def SameDo (w : World) (B : Nat) (xs : List Ex) (A A' : Option Addr) : Prop :=
  ∀ (c c' : Nat) (W : World), Same B w W → B ≤ W.heap.size → xs.length ≤ c → c ≤ maxLen →
    Calls Try.prog 43 #[.slice A xs.length c, .slice A' xs.length c'] W (TrueBelow W)

set_option maxHeartbeats 2000000 in
theorem same28 (w : World) (B : Nat) (x : Ex) (A A' : Option Addr) (c c' : Nat) (hf : Fits x c) (hd : SameDo w B x.args A A') (W : World) (hS : Same B w W) (hB : B ≤ W.heap.size) :
    Calls Try.prog 28 #[.agg #[.int .i64 x.op, .int .i64 x.kind, .int .i64 x.n, .string x.s, .string x.f, .slice A x.args.length c], .agg #[.int .i64 x.op, .int .i64 x.kind, .int .i64 x.n, .string x.s, .string x.f, .slice A' x.args.length c']] W (TrueBelow W) := by
  have hB2 : Below W.heap.size W ((W.alloc (.cells #[.int .i64 x.op, .int .i64 x.kind, .int .i64 x.n, .string x.s, .string x.f, .slice A x.args.length c] 49)).alloc (.cells #[.int .i64 x.op, .int .i64 x.kind, .int .i64 x.n, .string x.s, .string x.f, .slice A' x.args.length c'] 49)) :=
    ((Below.refl _ _).alloc (Nat.le_refl _) _).alloc (by simp) _
  have HD := hid (hd c c' ((W.alloc (.cells #[.int .i64 x.op, .int .i64 x.kind, .int .i64 x.n, .string x.s, .string x.f, .slice A x.args.length c] 49)).alloc (.cells #[.int .i64 x.op, .int .i64 x.kind, .int .i64 x.n, .string x.s, .string x.f, .slice A' x.args.length c'] 49)) (hS.trans (Same.of_below hB2 hB)) (by simp; omega) hf.l hf.c)
  have HB2 := hid hB2
  clear hd hS hB2 hf
  go_enter Try.func28, Try.ntmps28
  go_wp2_with fail
  refine HD.out.mono ?_
  rintro e w2 ⟨rfl, hb⟩
  have HB3 := hid (HB2.out.trans (hb.mono HB2.out.size))
  clear hb
  go_wp2
  go_ret
  exact ⟨rfl, HB3.out⟩

set_option maxHeartbeats 4000000 in
theorem same43 {w : World} {B : Nat} {xs : List Ex} {A : Option Addr} (h : Rds w B xs A) : ∀ A', Rds w B xs A' → SameDo w B xs A A' := by
  induction h with
  | nl A =>
    intro A' _ c c' W hS hB hl hcm
    clear hS
    simp only [List.length_nil]
    go_enter Try.func43, Try.ntmps43
    go_wp2
    go_loop [5] (fun i => i = .int .i64 0) (fun i => 1 - (intOf i).toNat)
    case atStart => exact rfl
    case round =>
      obtain rfl := hrel
      go_wp2
      go_ret
      exact ⟨rfl, Below.refl _ _⟩
  | sm xs a AA cc hb hcells hfits _ ih =>
    intro A' h' c c' W hS hB hl hcm
    have hl' : xs.length ≤ 9223372036854775807 := by unfold maxLen at hcm; omega
    have HW := hid hcells
    have HF := hid hfits
    have IH := hid ih
    have HS := hid hS
    have HR := hid h'
    clear hcells hfits ih hS hl h'
    go_enter Try.func43, Try.ntmps43
    go_wp2
    go_loopw [5] (fun i wr => ∃ k : Nat, k ≤ xs.length ∧ i = .int .i64 k ∧ Hid (Below W.heap.size W wr)) (fun i _ => xs.length - (intOf i).toNat)
    case atStart => exact ⟨0, Nat.zero_le _, rfl, hid (Below.refl _ _)⟩
    case round =>
      obtain ⟨k, hk, rfl, HB⟩ := hrel
      by_cases hlt : k < xs.length
      · obtain ⟨b, B', c2, rfl, hbb, hX2, hF2, hR2⟩ := HR.out.get hlt
        have hSr := HS.out.trans (Same.of_below HB.out hB)
        have HX := (HW.out k hlt).to (w' := wr) (fun q hq => hSr.cell (by rw [hq, block_add]; exact hb))
        have HX2 := hX2.to (w' := wr) (fun q hq => hSr.cell (by rw [hq, block_add]; exact hbb))
        have HD := hid (fun (W' : World) hS' hb' => same28 w B (xs.getD k ex0) (AA k) B' (cc k) c2 (HF.out k hlt) (IH.out k hlt B' hR2) W' hS' hb')
        have hq0 : (0 : Int) ≤ (k : Int) := by omega
        have hq1 : (k : Int) < (xs.length : Int) := by omega
        have hsz := HB.out.size
        have HE := hid (HD.out wr.drew hSr (Nat.le_trans hB hsz))
        clear hX2 hF2 hR2 hSr HD
        generalize AA k = A1 at *
        generalize cc k = c1 at *
        generalize xs.getD k ex0 = x at *
        have HK : Hid (∀ w2 : World, Below wr.drew.heap.size wr.drew w2 → w2.cell? (a.add (k * 6)) = some (.int .i64 x.op) ∧ w2.cell? ⟨(a.add (k * 6)).block, (a.add (k * 6)).off + 1, none⟩ = some (.int .i64 x.kind) ∧ w2.cell? ⟨(a.add (k * 6)).block, (a.add (k * 6)).off + 2, none⟩ = some (.int .i64 x.n) ∧ w2.cell? ⟨(a.add (k * 6)).block, (a.add (k * 6)).off + 3, none⟩ = some (.string x.s) ∧ w2.cell? ⟨(a.add (k * 6)).block, (a.add (k * 6)).off + 4, none⟩ = some (.string x.f) ∧ w2.cell? ⟨(a.add (k * 6)).block, (a.add (k * 6)).off + 5, none⟩ = some (.slice A1 x.args.length c1) ∧ w2.cell? (b.add (k * 6)) = some (.int .i64 x.op) ∧ w2.cell? ⟨(b.add (k * 6)).block, (b.add (k * 6)).off + 1, none⟩ = some (.int .i64 x.kind) ∧ w2.cell? ⟨(b.add (k * 6)).block, (b.add (k * 6)).off + 2, none⟩ = some (.int .i64 x.n) ∧ w2.cell? ⟨(b.add (k * 6)).block, (b.add (k * 6)).off + 3, none⟩ = some (.string x.s) ∧ w2.cell? ⟨(b.add (k * 6)).block, (b.add (k * 6)).off + 4, none⟩ = some (.string x.f) ∧ w2.cell? ⟨(b.add (k * 6)).block, (b.add (k * 6)).off + 5, none⟩ = some (.slice B' x.args.length c2)) := hid (fun w2 hb2 => by
          have g : ∀ q : Addr, q.block < B → w2.cell? q = wr.cell? q := fun q hq => World.cell?_of_block (hb2.block q.block (Nat.lt_of_lt_of_le hq (Nat.le_trans hB hsz)))
          have ga : (a.add (k * 6)).block < B := by rw [block_add]; exact hb
          have gb : (b.add (k * 6)).block < B := by rw [block_add]; exact hbb
          have ya := HX.to (w' := w2) (fun q hq => g q (by rw [hq]; exact ga))
          have yb := HX2.to (w' := w2) (fun q hq => g q (by rw [hq]; exact gb))
          exact ⟨ya.c0, ya.c1, ya.c2, ya.c3, ya.c4, ya.c5, yb.c0, yb.c1, yb.c2, yb.c3, yb.c4, yb.c5⟩)
        obtain ⟨k0, k1, k2, k3, k4, k5⟩ := HX
        obtain ⟨j0, j1, j2, j3, j4, j5⟩ := HX2
        go_wp2
        go_region_held3 (fun w' => w'.cell? (a.add (k * 6)) = some (.int .i64 x.op) ∧ w'.cell? ⟨(a.add (k * 6)).block, (a.add (k * 6)).off + 1, none⟩ = some (.int .i64 x.kind) ∧ w'.cell? ⟨(a.add (k * 6)).block, (a.add (k * 6)).off + 2, none⟩ = some (.int .i64 x.n) ∧ w'.cell? ⟨(a.add (k * 6)).block, (a.add (k * 6)).off + 3, none⟩ = some (.string x.s) ∧ w'.cell? ⟨(a.add (k * 6)).block, (a.add (k * 6)).off + 4, none⟩ = some (.string x.f) ∧ w'.cell? ⟨(a.add (k * 6)).block, (a.add (k * 6)).off + 5, none⟩ = some (.slice A1 x.args.length c1) ∧ w'.cell? (b.add (k * 6)) = some (.int .i64 x.op) ∧ w'.cell? ⟨(b.add (k * 6)).block, (b.add (k * 6)).off + 1, none⟩ = some (.int .i64 x.kind) ∧ w'.cell? ⟨(b.add (k * 6)).block, (b.add (k * 6)).off + 2, none⟩ = some (.int .i64 x.n) ∧ w'.cell? ⟨(b.add (k * 6)).block, (b.add (k * 6)).off + 3, none⟩ = some (.string x.s) ∧ w'.cell? ⟨(b.add (k * 6)).block, (b.add (k * 6)).off + 4, none⟩ = some (.string x.f) ∧ w'.cell? ⟨(b.add (k * 6)).block, (b.add (k * 6)).off + 5, none⟩ = some (.slice B' x.args.length c2)) (first | go_keep | exact HK.out _ (by assumption)) (first | (go_at_call 28; refine HE.out.mono ?_; rintro e w2 ⟨rfl, hb⟩))
        have HB2 := hid (HB.out.drew.trans (hb.mono hsz))
        clear hb HB HK HE
        go_wp2
        go_roundw
        case rel => exact ⟨k + 1, by omega, by go_num, HB2⟩
        case measure => simp [intOf]; omega
      · obtain rfl : k = xs.length := by omega
        go_wp2
        go_ret
        exact ⟨rfl, HB.out⟩
end Go.Proofs.Ytmkpoaapcghohaa
