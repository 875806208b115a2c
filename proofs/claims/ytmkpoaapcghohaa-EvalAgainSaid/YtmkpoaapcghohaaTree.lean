/- Expressions as trees, and how a slice of them lies in memory. -/
import Derived.Test.YtmkpoaapcghohaaCmp
import Derived.Deep.RegionHeld3
namespace Go.Proofs.Ytmkpoaapcghohaa
open Go.RowKit

structure Ex where
  op : Int
  kind : Int
  n : Int
  s : ByteArray
  f : ByteArray
  args : List Ex
def ex0 : Ex := ⟨0, 0, 0, ⟨#[]⟩, ⟨#[]⟩, []⟩

mutual
/-- the number of nodes -/
def Ex.sz : Ex → Nat
  | ⟨_, _, _, _, _, args⟩ => 1 + szL args
def szL : List Ex → Nat
  | [] => 0
  | x :: xs => x.sz + szL xs
end
mutual
/-- how deep it is -/
def Ex.ht : Ex → Nat
  | ⟨_, _, _, _, _, args⟩ => 1 + htL args
def htL : List Ex → Nat
  | [] => 0
  | x :: xs => max x.ht (htL xs)
end
theorem Ex.sz_eq (x : Ex) : x.sz = 1 + szL x.args := by cases x; rw [Ex.sz]
theorem Ex.ht_eq (x : Ex) : x.ht = 1 + htL x.args := by cases x; rw [Ex.ht]

/-- the sizes of the first elements -/
def szTo (xs : List Ex) (k : Nat) : Nat := szL (xs.take k)
theorem szL_append (xs ys : List Ex) : szL (xs ++ ys) = szL xs + szL ys := by
  induction xs with
  | nil => rw [List.nil_append, szL, Nat.zero_add]
  | cons x xs ih => rw [List.cons_append, szL, szL, ih, Nat.add_assoc]
theorem szTo_succ {xs : List Ex} {k : Nat} (h : k < xs.length) : szTo xs (k + 1) = szTo xs k + (xs.getD k ex0).sz := by
  unfold szTo
  rw [List.take_succ_eq_append_getElem h, szL_append, szL, szL, Nat.add_zero]
  simp [List.getD, h]
theorem szTo_le (xs : List Ex) (k : Nat) : szTo xs k ≤ szL xs := by
  unfold szTo
  have h : szL xs = szL (xs.take k) + szL (xs.drop k) := by rw [← szL_append, List.take_append_drop]
  omega
theorem szTo_all (xs : List Ex) : szTo xs xs.length = szL xs := by unfold szTo; rw [List.take_length]
theorem szTo_zero (xs : List Ex) : szTo xs 0 = 0 := by unfold szTo; rw [List.take_zero, szL]
theorem htL_ge {xs : List Ex} {k : Nat} (h : k < xs.length) : (xs.getD k ex0).ht ≤ htL xs := by
  induction xs generalizing k with
  | nil => simp at h
  | cons x xs ih =>
    rw [htL]
    cases k with
    | zero => simp [List.getD]; omega
    | succ k =>
      have := ih (k := k) (by simpa using h)
      simp [List.getD] at this ⊢
      omega
theorem htL_le {xs : List Ex} {m : Nat} (h : ∀ k, k < xs.length → (xs.getD k ex0).ht ≤ m) : htL xs ≤ m := by
  induction xs with
  | nil => rw [htL]; omega
  | cons x xs ih =>
    rw [htL]
    have h0 := h 0 (by simp)
    have h1 := ih (fun k hk => by have := h (k + 1) (by simpa using hk); simpa [List.getD] using this)
    simp [List.getD] at h0
    omega

/-- an expression's cells -/
structure CellsAt (w : World) (p : Addr) (x : Ex) (A : Option Addr) (c : Nat) : Prop where
  c0 : w.cell? p = some (.int .i64 x.op)
  c1 : w.cell? ⟨p.block, p.off + 1, none⟩ = some (.int .i64 x.kind)
  c2 : w.cell? ⟨p.block, p.off + 2, none⟩ = some (.int .i64 x.n)
  c3 : w.cell? ⟨p.block, p.off + 3, none⟩ = some (.string x.s)
  c4 : w.cell? ⟨p.block, p.off + 4, none⟩ = some (.string x.f)
  c5 : w.cell? ⟨p.block, p.off + 5, none⟩ = some (.slice A x.args.length c)
/-- what is true of every expression that was read -/
structure Fits (x : Ex) (c : Nat) : Prop where
  s : x.s.size ≤ maxLen
  f : x.f.size ≤ maxLen
  l : x.args.length ≤ c
  c : c ≤ maxLen

theorem CellsAt.to {w w' : World} {p : Addr} {x : Ex} {A : Option Addr} {c : Nat} (h : CellsAt w p x A c) (hc : ∀ q : Addr, q.block = p.block → w'.cell? q = w.cell? q) : CellsAt w' p x A c :=
  ⟨(hc p rfl).trans h.c0, (hc ⟨p.block, p.off + 1, none⟩ rfl).trans h.c1, (hc ⟨p.block, p.off + 2, none⟩ rfl).trans h.c2, (hc ⟨p.block, p.off + 3, none⟩ rfl).trans h.c3, (hc ⟨p.block, p.off + 4, none⟩ rfl).trans h.c4, (hc ⟨p.block, p.off + 5, none⟩ rfl).trans h.c5⟩

/-- A slice of expressions lies in memory, in blocks below B. -/
inductive Rds (w : World) (B : Nat) : List Ex → Option Addr → Prop
  | nl (A : Option Addr) : Rds w B [] A
  | sm (xs : List Ex) (a : Addr) (AA : Nat → Option Addr) (cc : Nat → Nat) (hb : a.block < B)
      (hc : ∀ i, i < xs.length → CellsAt w (a.add (i * 6)) (xs.getD i ex0) (AA i) (cc i)) (hf : ∀ i, i < xs.length → Fits (xs.getD i ex0) (cc i))
      (hr : ∀ i, i < xs.length → Rds w B (xs.getD i ex0).args (AA i)) : Rds w B xs (some a)

/-- below block B the world W is as w -/
def Same (B : Nat) (w W : World) : Prop := ∀ k, k < B → W.heap[k]? = w.heap[k]?
theorem Same.refl (B : Nat) (w : World) : Same B w w := fun _ _ => rfl
theorem Same.trans {B : Nat} {a b c : World} (h : Same B a b) (k : Same B b c) : Same B a c := fun i hi => (k i hi).trans (h i hi)
theorem Same.of_below {B D : Nat} {w W : World} (h : Below D w W) (hD : B ≤ D) : Same B w W := fun k hk => h.block k (by omega)
theorem Same.cell {B : Nat} {w W : World} (h : Same B w W) {p : Addr} (hp : p.block < B) : W.cell? p = w.cell? p := World.cell?_of_block (w := w) (h p.block hp)
theorem Same.mono {B B' : Nat} {w W : World} (h : Same B w W) (hB : B' ≤ B) : Same B' w W := fun k hk => h k (by omega)

theorem Rds.to {w W : World} {B B' : Nat} {xs : List Ex} {A : Option Addr} (h : Rds w B xs A) (hs : Same B w W) (hB : B ≤ B') : Rds W B' xs A := by
  induction h with
  | nl A => exact .nl A
  | sm xs a AA cc hb hc hf _ ih =>
    exact .sm xs a AA cc (by omega) (fun i hi => (hc i hi).to (fun q hq => hs.cell (by rw [hq, block_add]; exact hb))) hf ih
theorem Rds.keep {w W : World} {B : Nat} {xs : List Ex} {A : Option Addr} (h : Rds w B xs A) (hb : Below B w W) : Rds W B xs A := h.to (Same.of_below hb (Nat.le_refl _)) (Nat.le_refl _)

/-- one element of a slice that was read -/
theorem Rds.get {w : World} {B : Nat} {xs : List Ex} {A : Option Addr} (h : Rds w B xs A) {i : Nat} (hi : i < xs.length) :
    ∃ a A' c, A = some a ∧ a.block < B ∧ CellsAt w (a.add (i * 6)) (xs.getD i ex0) A' c ∧ Fits (xs.getD i ex0) c ∧ Rds w B (xs.getD i ex0).args A' := by
  cases h with
  | nl A => simp at hi
  | sm xs a AA cc hb hc hf hr => exact ⟨a, AA i, cc i, rfl, hb, hc i hi, hf i hi, hr i hi⟩

end Go.Proofs.Ytmkpoaapcghohaa
