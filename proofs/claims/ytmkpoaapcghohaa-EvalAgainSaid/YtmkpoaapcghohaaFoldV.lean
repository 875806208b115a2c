/- A row of folded expressions under way; the reference's constant. -/
import Derived.Test.YtmkpoaapcghohaaFoldS
namespace Go.Proofs.Ytmkpoaapcghohaa
open Go.RowKit

/-- A slice of expressions lies in memory, in blocks of which P holds. -/
inductive RdsP (w : World) (P : Nat → Prop) : List Ex → Option Addr → Prop
  | nl (A : Option Addr) : RdsP w P [] A
  | sm (xs : List Ex) (a : Addr) (AA : Nat → Option Addr) (cc : Nat → Nat) (hb : P a.block)
      (hc : ∀ i, i < xs.length → CellsAt w (a.add (i * 6)) (xs.getD i ex0) (AA i) (cc i)) (hf : ∀ i, i < xs.length → Fits (xs.getD i ex0) (cc i))
      (hr : ∀ i, i < xs.length → RdsP w P (xs.getD i ex0).args (AA i)) : RdsP w P xs (some a)
theorem RdsP.to {w W : World} {P Q : Nat → Prop} {xs : List Ex} {A : Option Addr} (h : RdsP w P xs A) (hs : ∀ k, P k → W.heap[k]? = w.heap[k]?) (hP : ∀ k, P k → Q k) : RdsP W Q xs A := by
  induction h with
  | nl A => exact .nl A
  | sm xs a AA cc hb hc hf _ ih => exact .sm xs a AA cc (hP _ hb) (fun i hi => (hc i hi).to (fun q hq => World.cell?_of_block (hs q.block (by rw [hq, block_add]; exact hb)))) hf ih
theorem RdsP.rds {w : World} {P : Nat → Prop} {B : Nat} {xs : List Ex} {A : Option Addr} (h : RdsP w P xs A) (hP : ∀ k, P k → k < B) : Rds w B xs A := by
  induction h with
  | nl A => exact .nl A
  | sm xs a AA cc hb hc hf _ ih => exact .sm xs a AA cc (hP _ hb) hc hf ih

/-- what a folding leaves -/
structure FoldGot (y : Ex) (W w' : World) (A : Option Addr) (c : Nat) : Prop where
  b : Below W.heap.size W w'
  f : Fits y c
  r : RdsP w' (fun b => W.heap.size ≤ b ∧ b < w'.heap.size) y.args A
def FoldSays (y : Ex) (W : World) (e : Ending) (w' : World) : Prop := ∃ A c, e = .returned (Value.agg #[.int .i64 y.op, .int .i64 y.kind, .int .i64 y.n, .string y.s, .string y.f, .slice A y.args.length c]) ∧ FoldGot y W w' A c

structure SixAt (cs : List Value) (j : Nat) (x : Ex) (A : Option Addr) (c : Nat) : Prop where
  c0 : cs[j * 6]? = some (.int .i64 x.op)
  c1 : cs[j * 6 + 1]? = some (.int .i64 x.kind)
  c2 : cs[j * 6 + 2]? = some (.int .i64 x.n)
  c3 : cs[j * 6 + 3]? = some (.string x.s)
  c4 : cs[j * 6 + 4]? = some (.string x.f)
  c5 : cs[j * 6 + 5]? = some (.slice A x.args.length c)
def sixOf (x : Ex) (A : Option Addr) (c : Nat) : List Value := [.int .i64 x.op, .int .i64 x.kind, .int .i64 x.n, .string x.s, .string x.f, .slice A x.args.length c]
theorem SixAt.left {cs : List Value} {j : Nat} {x : Ex} {A : Option Addr} {c k : Nat} (h : SixAt cs j x A c) (hl : cs.length = k * 6) (hj : j < k) (ns : List Value) : SixAt (cs ++ ns) j x A c :=
  ⟨by rw [List.getElem?_append_left (by omega)]; exact h.c0, by rw [List.getElem?_append_left (by omega)]; exact h.c1, by rw [List.getElem?_append_left (by omega)]; exact h.c2,
   by rw [List.getElem?_append_left (by omega)]; exact h.c3, by rw [List.getElem?_append_left (by omega)]; exact h.c4, by rw [List.getElem?_append_left (by omega)]; exact h.c5⟩
theorem SixAt.last {cs : List Value} {k : Nat} (hl : cs.length = k * 6) (x : Ex) (A : Option Addr) (c : Nat) : SixAt (cs ++ sixOf x A c) k x A c := by
  have e : ∀ r, (cs ++ sixOf x A c)[k * 6 + r]? = (sixOf x A c)[r]? := fun r => by rw [List.getElem?_append_right (by omega)]; congr 1; omega
  exact ⟨e 0, e 1, e 2, e 3, e 4, e 5⟩
theorem six_one (x : Ex) (A : Option Addr) (c : Nat) : ∀ u ∈ sixOf x A c, u.oneCell' = true := by
  intro u hu; unfold sixOf at hu; simp at hu; rcases hu with rfl | rfl | rfl | rfl | rfl | rfl <;> rfl
theorem addr0 (g n : Nat) : (⟨g, 0, none⟩ : Addr).add n = ⟨g, n, none⟩ := by
  unfold Addr.add; split
  · next h => rw [h]
  · simp
theorem six_at (w : World) (x : Ex) (A : Option Addr) (c : Nat) (g : Nat) (hg : g = w.heap.size) :
    ∀ j u, (sixOf x A c)[j]? = some u → (w.alloc (.cells #[.int .i64 x.op, .int .i64 x.kind, .int .i64 x.n, .string x.s, .string x.f, .slice A x.args.length c] 49)).cell? ((⟨g, 0, none⟩ : Addr).add j) = some u := by
  intro j u hj
  subst hg
  rw [addr0]
  unfold sixOf at hj
  match j, hj with
  | 0, hj => simp at hj; subst hj; simp
  | 1, hj => simp at hj; subst hj; simp
  | 2, hj => simp at hj; subst hj; simp
  | 3, hj => simp at hj; subst hj; simp
  | 4, hj => simp at hj; subst hj; simp
  | 5, hj => simp at hj; subst hj; simp
  | j + 6, hj => simp at hj

structure ArgsTo (base : Nat) (fs : List Ex) (w : World) (k : Nat) (v : Value) (cs : List Value) (AA : Nat → Option Addr) (cc : Nat → Nat) : Prop where
  own : w.ownsRow base 49 6 v k cs
  six : ∀ j, j < k → SixAt cs j (fs.getD j ex0) (AA j) (cc j)
  fit : ∀ j, j < k → Fits (fs.getD j ex0) (cc j)
  rds : ∀ j, j < k → RdsP w (fun b => base ≤ b ∧ b < w.heap.size ∧ some b ≠ v.ownBlock) (fs.getD j ex0).args (AA j)
theorem ArgsTo.start (base : Nat) (fs : List Ex) (w : World) (AA : Nat → Option Addr) (cc : Nat → Nat) : ArgsTo base fs w 0 (.slice none 0 0) [] AA cc :=
  ⟨World.ownsRow_nil _ _ _ _, fun j hj => by omega, fun j hj => by omega, fun j hj => by omega⟩
theorem args_next {base : Nat} {fs : List Ex} {wr : World} {k : Nat} {v : Value} {cs : List Value} {AA : Nat → Option Addr} {cc : Nat → Nat} (h : ArgsTo base fs wr k v cs AA cc)
    {w2 w3 : World} {v' : Value} {y : Ex} {A : Option Addr} {c : Nat} (hy : fs.getD k ex0 = y) (hb : Below wr.heap.size wr w2) (hbase : base ≤ wr.heap.size)
    (hown : w3.ownsRow base 49 6 v' (k + 1) (cs ++ sixOf y A c)) (hg : w2.grownBy w3 v.ownBlock) (hv : v'.ownBlock = v.ownBlock ∨ v'.ownBlock = some w2.heap.size) (hf : Fits y c)
    (hr : RdsP w2 (fun b => wr.heap.size ≤ b ∧ b < w2.heap.size) y.args A) :
    ArgsTo base fs w3 (k + 1) v' (cs ++ sixOf y A c) (fun j => if j = k then A else AA j) (fun j => if j = k then c else cc j) := by
  have hl := h.own.1
  have hs1 := hb.size
  have hs2 := hg.size
  refine ⟨hown, fun j hj => ?_, fun j hj => ?_, fun j hj => ?_⟩
  · by_cases e : j = k
    · subst e; simp only [if_true]; rw [hy]; exact SixAt.last hl y A c
    · simp only [if_neg e]; exact (h.six j (by omega)).left hl (by omega) _
  · by_cases e : j = k
    · subst e; simp only [if_true]; rw [hy]; exact hf
    · simp only [if_neg e]; exact h.fit j (by omega)
  · by_cases e : j = k
    · subst e; simp only [if_true]; rw [hy]
      have hne : ∀ b, wr.heap.size ≤ b → some b ≠ v.ownBlock := fun b hb e => by have := (h.own.lt b e.symm).2; omega
      refine hr.to (fun b hb => hg.block b hb.2 (hne b hb.1)) (fun b hb => ⟨by omega, by omega, fun e => ?_⟩)
      rcases hv with h1 | h1
      · exact hne b hb.1 (e.trans h1)
      · rw [h1] at e; have := Option.some.inj e; omega
    · simp only [if_neg e]
      refine (h.rds j (by omega)).to (fun b hb2 => (hg.block b (by omega) hb2.2.2).trans (hb.block b hb2.2.1)) (fun b hb2 => ⟨hb2.1, by omega, fun e => ?_⟩)
      rcases hv with h1 | h1
      · exact hb2.2.2 (e.trans h1)
      · rw [h1] at e; have := Option.some.inj e; omega
theorem args_done {base : Nat} {fs : List Ex} {w : World} {n : Nat} {v : Value} {cs : List Value} {AA : Nat → Option Addr} {cc : Nat → Nat} (h : ArgsTo base fs w n v cs AA cc) (hn : fs.length = n) :
    ∃ A cap, v = .slice A n cap ∧ n ≤ cap ∧ cap ≤ maxLen ∧ RdsP w (fun b => base ≤ b ∧ b < w.heap.size) fs A ∧ (0 < n → ∃ g, A = some ⟨g, 0, none⟩ ∧ base ≤ g ∧ g < w.heap.size) := by
  subst hn
  have hr : ∀ j, j < fs.length → RdsP w (fun b => base ≤ b ∧ b < w.heap.size) (fs.getD j ex0).args (AA j) := fun j hj => (h.rds j hj).to (fun _ _ => rfl) (fun b hb => ⟨hb.1, hb.2.1⟩)
  rcases h.own.2 with ⟨rfl, h0⟩ | ⟨g, cap, cur, rfl, hb, hg, hnc, hcm, _⟩
  · have e : fs = [] := List.eq_nil_of_length_eq_zero h0
    subst e
    exact ⟨none, 0, rfl, Nat.le_refl _, by unfold maxLen; omega, .nl none, fun h => absurd h (by simp)⟩
  · have hgs : g < w.heap.size := (Array.getElem?_eq_some_iff.1 hg).1
    have hc : ∀ j u, cs[j]? = some u → w.cell? ⟨g, j, none⟩ = some u := fun j u hu => by rw [← addr0]; exact h.own.cells (g := g) rfl j u hu
    refine ⟨some ⟨g, 0, none⟩, cap, rfl, hnc, hcm, ?_, fun _ => ⟨g, rfl, hb, hgs⟩⟩
    refine .sm fs ⟨g, 0, none⟩ AA cc ⟨hb, hgs⟩ (fun i hi => ?_) h.fit hr
    rw [addr0]
    have hx := h.six i hi
    exact ⟨hc _ _ hx.c0, hc _ _ hx.c1, hc _ _ hx.c2, hc _ _ hx.c3, hc _ _ hx.c4, hc _ _ hx.c5⟩

/-- the reference's constant: of the expression or a new one -/
def Con45 (x : Ex) (A : Option Addr) (c : Nat) (k n : Int) (w : World) (e : Ending) (w' : World) : Prop :=
  (n < 0 → e = .returned (Value.agg #[.int .i64 x.op, .int .i64 x.kind, .int .i64 x.n, .string x.s, .string x.f, .slice A x.args.length c])) ∧ (0 ≤ n → e = .returned (.agg #[.int .i64 1, .int .i64 k, .int .i64 n, .string ⟨#[]⟩, .string ⟨#[]⟩, .slice none 0 0])) ∧ Below w.heap.size w w'
end Go.Proofs.Ytmkpoaapcghohaa
