/- Contracts: the reference's Size: Node, Right, Expr by the operator. -/
import Derived.Test.YtmkpoaapcghohaaCountB
namespace Go.Proofs.Ytmkpoaapcghohaa
open Go.RowKit

structure Sz (w : World) (bp : Nat) (n : Int) (b : Bool) : Prop where
  n : w.cell? ⟨bp, 0, none⟩ = some (.int .i64 n)
  d : ∃ dp, w.cell? ⟨bp, 1, none⟩ = some (.int .i64 dp)
  b : w.cell? ⟨bp, 2, none⟩ = some (.bool b)
  f0 : w.frozen? ⟨bp, 0, none⟩ = false
  f1 : w.frozen? ⟨bp, 1, none⟩ = false
  f2 : w.frozen? ⟨bp, 2, none⟩ = false
theorem Sz.to {W w' : World} {bp : Nat} {n : Int} {b : Bool} (h : Sz W bp n b) (e : w'.heap[bp]? = W.heap[bp]?) : Sz w' bp n b := by
  obtain ⟨dp, hd⟩ := h.d
  exact ⟨(World.cell?_of_block (w := W) (a := ⟨bp, 0, none⟩) e).trans h.n, ⟨dp, (World.cell?_of_block (w := W) (a := ⟨bp, 1, none⟩) e).trans hd⟩, (World.cell?_of_block (w := W) (a := ⟨bp, 2, none⟩) e).trans h.b,
    (World.frozen?_of_block (w := W) (a := ⟨bp, 0, none⟩) e).trans h.f0, (World.frozen?_of_block (w := W) (a := ⟨bp, 1, none⟩) e).trans h.f1, (World.frozen?_of_block (w := W) (a := ⟨bp, 2, none⟩) e).trans h.f2⟩

theorem nmB_false (s : ByteArray) : nmB s false = s.toList.isEmpty := by
  unfold nmB
  by_cases h : s.size = 0
  · have := toList_nil.2 h; simp [h, this]
  · have : ¬ s.toList = [] := fun e => h (toList_nil.1 e)
    simp [h, this]
def orN (b ok : Bool) : Bool := b || !ok
def SzSays (m : Int) (b : Bool) (bp : Nat) (w : World) (e : Ending) (w' : World) : Prop := e = .returned (.tuple #[]) ∧ Sz w' bp m b ∧ w.grownBy w' (some bp)

set_option maxHeartbeats 1000000 in
theorem right53 (bp : Nat) (n : Int) (b ok : Bool) (w : World) (hc : Sz w bp n b) :
    Calls Try.prog 53 #[.pointer (some ⟨bp, 0, none⟩), .bool ok] w (SzSays n (orN b ok) bp w) := by
  obtain ⟨h0, ⟨dp, h1⟩, h2, f0, f1, f2⟩ := hc
  cases ok
  · have HS : Hid (Sz (w.setCell ⟨bp, 2, none⟩ (.bool true)) bp n (orN b false)) := hid ⟨by rw [World.cell?_setCell_other _ _ _ _ (by simp)]; exact h0, ⟨dp, by rw [World.cell?_setCell_other _ _ _ _ (by simp)]; exact h1⟩,
      by rw [World.cell?_setCell_same _ _ _ h2]; cases b <;> rfl, by simp [f0], by simp [f1], by simp [f2]⟩
    go_enter Try.func53, Try.ntmps53
    go_wp2
    go_end0
    exact ⟨rfl, HS.out, grown_set _ _ _⟩
  · have HS : Hid (Sz w bp n (orN b true)) := hid ⟨h0, ⟨dp, h1⟩, by rw [h2]; cases b <;> rfl, f0, f1, f2⟩
    go_enter Try.func53, Try.ntmps53
    go_wp2
    go_end0
    exact ⟨rfl, HS.out, grown_refl _ _⟩

theorem sz_node {w : World} {bp : Nat} {n m e dp : Int} {b : Bool} (h0 : w.cell? ⟨bp, 0, none⟩ = some (.int .i64 n)) (h1 : w.cell? ⟨bp, 1, none⟩ = some (.int .i64 dp)) (h2 : w.cell? ⟨bp, 2, none⟩ = some (.bool b))
    (f0 : w.frozen? ⟨bp, 0, none⟩ = false) (f1 : w.frozen? ⟨bp, 1, none⟩ = false) (f2 : w.frozen? ⟨bp, 2, none⟩ = false) :
    Sz ((w.setCell ⟨bp, 0, none⟩ (.int .i64 m)).setCell ⟨bp, 1, none⟩ (.int .i64 e)) bp m b := by
  refine ⟨?_, ⟨e, ?_⟩, ?_, ?_, ?_, ?_⟩
  · rw [World.cell?_setCell_other _ _ _ _ (by simp), World.cell?_setCell_same _ _ _ h0]
  · exact World.cell?_setCell_same _ _ _ (u := .int .i64 dp) (by rw [World.cell?_setCell_other _ _ _ _ (by simp)]; exact h1)
  · rw [World.cell?_setCell_other _ _ _ _ (by simp), World.cell?_setCell_other _ _ _ _ (by simp)]; exact h2
  · simp [f0]
  · simp [f1]
  · simp [f2]
theorem sz_wrong {w : World} {bp : Nat} {n : Int} {b : Bool} (h : Sz w bp n b) : Sz (w.setCell ⟨bp, 2, none⟩ (.bool true)) bp n true := by
  obtain ⟨dp, hd⟩ := h.d
  exact ⟨by rw [World.cell?_setCell_other _ _ _ _ (by simp)]; exact h.n, ⟨dp, by rw [World.cell?_setCell_other _ _ _ _ (by simp)]; exact hd⟩, World.cell?_setCell_same _ _ _ h.b, by simp [h.f0], by simp [h.f1], by simp [h.f2]⟩

set_option maxHeartbeats 2000000 in
theorem node52 (bp : Nat) (n d : Int) (w : World) (hn0 : 0 ≤ n) (hn1 : n ≤ 1000) (hc : Sz w bp n false) :
    Calls Try.prog 52 #[.pointer (some ⟨bp, 0, none⟩), .int .i64 d] w (SzSays (n + 1) (!addB n d) bp w) := by
  obtain ⟨h0, ⟨dp, h1⟩, h2, f0, f1, f2⟩ := hc
  have hs : ∀ e : Int, Hid (Sz ((w.setCell ⟨bp, 0, none⟩ (.int .i64 (n + 1))).setCell ⟨bp, 1, none⟩ (.int .i64 e)) bp (n + 1) false) := fun e => hid (sz_node h0 h1 h2 f0 f1 f2)
  have hs2 : ∀ e : Int, Hid (Sz (((w.setCell ⟨bp, 0, none⟩ (.int .i64 (n + 1))).setCell ⟨bp, 1, none⟩ (.int .i64 e)).setCell ⟨bp, 2, none⟩ (.bool true)) bp (n + 1) true) := fun e => hid (sz_wrong (hs e).out)
  have hg : ∀ e : Int, Hid (w.grownBy ((w.setCell ⟨bp, 0, none⟩ (.int .i64 (n + 1))).setCell ⟨bp, 1, none⟩ (.int .i64 e)) (some bp)) := fun e => hid (grown_trans (grown_set _ _ _) (grown_set _ _ _))
  have hg2 : ∀ e : Int, Hid (w.grownBy (((w.setCell ⟨bp, 0, none⟩ (.int .i64 (n + 1))).setCell ⟨bp, 1, none⟩ (.int .i64 e)).setCell ⟨bp, 2, none⟩ (.bool true)) (some bp)) := fun e => hid (grown_trans (hg e).out (grown_set _ _ _))
  by_cases hdp : dp < d <;> by_cases h5 : 500 < n + 1 <;> by_cases h14 : 14 < d
  · have HT : Hid (addB n d = false) := hid (by unfold addB; simp; omega)
    go_enter Try.func52, Try.ntmps52
    go_wp2
    go_end0
    exact ⟨rfl, by rw [HT.out]; exact (hs2 _).out, (hg2 _).out⟩
  · have HT : Hid (addB n d = false) := hid (by unfold addB; simp; omega)
    go_enter Try.func52, Try.ntmps52
    go_wp2
    go_end0
    exact ⟨rfl, by rw [HT.out]; exact (hs2 _).out, (hg2 _).out⟩
  · have HT : Hid (addB n d = false) := hid (by unfold addB; simp; omega)
    go_enter Try.func52, Try.ntmps52
    go_wp2
    go_end0
    exact ⟨rfl, by rw [HT.out]; exact (hs2 _).out, (hg2 _).out⟩
  · have HT : Hid (addB n d = true) := hid (by unfold addB; simp; omega)
    go_enter Try.func52, Try.ntmps52
    go_wp2
    go_end0
    exact ⟨rfl, by rw [HT.out]; exact (hs _).out, (hg _).out⟩
  · have HT : Hid (addB n d = false) := hid (by unfold addB; simp; omega)
    go_enter Try.func52, Try.ntmps52
    go_wp2
    go_end0
    exact ⟨rfl, by rw [HT.out]; exact (hs2 _).out, (hg2 _).out⟩
  · have HT : Hid (addB n d = false) := hid (by unfold addB; simp; omega)
    go_enter Try.func52, Try.ntmps52
    go_wp2
    go_end0
    exact ⟨rfl, by rw [HT.out]; exact (hs2 _).out, (hg2 _).out⟩
  · have HT : Hid (addB n d = false) := hid (by unfold addB; simp; omega)
    go_enter Try.func52, Try.ntmps52
    go_wp2
    go_end0
    exact ⟨rfl, by rw [HT.out]; exact (hs2 _).out, (hg2 _).out⟩
  · have HT : Hid (addB n d = true) := hid (by unfold addB; simp; omega)
    go_enter Try.func52, Try.ntmps52
    go_wp2
    go_end0
    exact ⟨rfl, by rw [HT.out]; exact (hs _).out, (hg _).out⟩

/-- what is known while an expression is counted -/
structure Sized (w : World) (B : Nat) (op kind nn : Int) (s f : ByteArray) (args : List Ex) (A : Option Addr) (c bp : Nat) (W w1 : World) (m : Int) (b : Bool) : Prop where
  box : Boxed6 w1 W.heap.size op kind nn s f A args.length c
  sz : Sz w1 bp m b
  grown : W.grownBy w1 (some bp)
  same : Same B w w1
  lt : bp < w1.heap.size
  bx : W.heap.size < w1.heap.size
section
variable {w : World} {B : Nat} {op kind nn : Int} {s f : ByteArray} {args : List Ex} {A : Option Addr} {c bp : Nat} {W w1 w2 : World} {m m' : Int} {b b' : Bool}
theorem sized_start (hS : Same B w W) (hB : B ≤ bp) (hbp : bp < W.heap.size) (hc : Sz W bp m b) :
    Sized w B op kind nn s f args A c bp W (W.alloc (.cells #[.int .i64 op, .int .i64 kind, .int .i64 nn, .string s, .string f, .slice A args.length c] 49)) m b := by
  have g1 := grown_alloc W (.cells #[.int .i64 op, .int .i64 kind, .int .i64 nn, .string s, .string f, .slice A args.length c] 49) (some bp)
  exact ⟨boxed_new W op kind nn s f A args.length c, hc.to (Below.heap_alloc _ _ _ hbp), g1, hS.trans (grown_same g1 hB hbp), Nat.lt_of_lt_of_le hbp g1.size, by simp⟩
theorem Sized.step (h : Sized w B op kind nn s f args A c bp W w1 m b) (hB : B ≤ bp) (hbp : bp < W.heap.size) (hc : Sz w2 bp m' b') (hg : w1.grownBy w2 (some bp)) : Sized w B op kind nn s f args A c bp W w2 m' b' :=
  ⟨h.box.to (fun q hq => grown_cell hg (by rw [hq]; exact h.bx) (by rw [hq]; omega)), hc, grown_trans h.grown hg, h.same.trans (grown_same hg hB h.lt), Nat.lt_of_lt_of_le h.lt hg.size, Nat.lt_of_lt_of_le h.bx hg.size⟩
theorem Sized.keep (h : Sized w B op kind nn s f args A c bp W w1 m b) (hB : B ≤ bp) (hbp : bp < W.heap.size) (hb : Below w1.heap.size w1 w2) : Sized w B op kind nn s f args A c bp W w2 m b :=
  h.step hB hbp (h.sz.to (hb.block bp h.lt)) (grown_below hb (Nat.le_refl _))
end

def SzExprsSays (n d : Int) (b : Bool) (xs : List Ex) (bp : Nat) (w : World) (e : Ending) (w' : World) : Prop :=
  e = .returned (.tuple #[]) ∧ ∃ (t : Bool) (m : Int), Sz w' bp m t ∧ w.grownBy w' (some bp) ∧ 0 ≤ m ∧ m ≤ 501 ∧ (t = false ↔ b = false ∧ OkAll n d xs) ∧ (t = false → m = n + (szL xs : Int))
def SzExprSays (n d : Int) (x : Ex) (bp : Nat) (w : World) (e : Ending) (w' : World) : Prop :=
  e = .returned (.tuple #[]) ∧ ∃ (t : Bool) (m : Int), Sz w' bp m t ∧ w.grownBy w' (some bp) ∧ 0 ≤ m ∧ m ≤ 501 ∧ (t = false ↔ OkOne n d x) ∧ (t = false → m = n + (x.sz : Int))
def SzExprsDo (w : World) (B : Nat) (xs : List Ex) (A : Option Addr) : Prop :=
  ∀ (n d : Int) (b : Bool) (bp c : Nat) (W : World), Same B w W → B ≤ bp → bp < W.heap.size → 0 ≤ n → n ≤ 501 → (b = false → n ≤ 500 ∧ d ≤ 15) → 1 ≤ d → d ≤ 16 → xs.length ≤ c → c ≤ maxLen → Sz W bp n b →
    Calls Try.prog 55 #[.pointer (some ⟨bp, 0, none⟩), .slice A xs.length c, .int .i64 d] W (SzExprsSays n d b xs bp W)

theorem sz_end {w : World} {B : Nat} {op kind nn : Int} {s f : ByteArray} {args : List Ex} {A : Option Addr} {c bp : Nat} {n d : Int} {W w1 w2 : World} {b : Bool} {e : Ending}
    (h : Sized w B op kind nn s f args A c bp W w1 (n + 1) b) (hb : b = !(addB n d && okB ⟨op, kind, nn, s, f, args⟩)) (hE : SzExprsSays (n + 1) (d + 1) b args bp w1 e w2) : SzExprSays n d ⟨op, kind, nn, s, f, args⟩ bp W e w2 := by
  obtain ⟨he, t, m, hs, hg, hm0, hm1, hiff, hm⟩ := hE
  refine ⟨he, t, m, hs, grown_trans h.grown hg, hm0, hm1, ?_, fun ht => ?_⟩
  · rw [hiff]
    constructor
    · intro ⟨h1, h2⟩
      rw [hb] at h1
      have h3 : addB n d = true ∧ okB ⟨op, kind, nn, s, f, args⟩ = true := by simpa using h1
      exact (ok_step h3.2).2 h2
    · intro h1
      have ho : okB ⟨op, kind, nn, s, f, args⟩ = true := by
        have := h1.1
        rw [Ex.ok_eq, Bool.and_eq_true] at this
        exact this.1
      have ha : addB n d = true := by
        cases e : addB n d
        · exact absurd h1 (not_add e)
        · rfl
      exact ⟨by rw [hb, ho, ha]; rfl, (ok_step ho).1 h1⟩
  · rw [hm ht, Ex.sz_eq]; simp only; omega
theorem addB_use {n d : Int} {b t : Bool} (h : b = !(addB n d && t)) (hb : b = false) : n + 1 ≤ 500 ∧ d + 1 ≤ 15 := by
  rw [hb] at h
  have h1 : addB n d = true := by cases e : addB n d <;> simp_all
  have := addB_true h1
  omega
end Go.Proofs.Ytmkpoaapcghohaa
