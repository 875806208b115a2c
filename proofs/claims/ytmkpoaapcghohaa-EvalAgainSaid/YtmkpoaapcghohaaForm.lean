/- Well formed expressions; contracts of the counter's small functions. -/
import Derived.Test.YtmkpoaapcghohaaNamesB
namespace Go.Proofs.Ytmkpoaapcghohaa
open Go.RowKit

/-! one node -/
def constB (kind n : Int) : Bool := decide (0 ≤ n ∧ n ≤ 2147483647 ∧ (kind = 2 ∨ kind = 3 ∨ (kind = 1 ∧ n ≤ 1)))
noncomputable def nmB (s : ByteArray) (b : Bool) : Bool := if b then nameB s else decide (s.size = 0)
def namedOf (op : Int) : Bool := decide (2 ≤ op ∧ op ≤ 5)
def fieldOf (op : Int) : Bool := decide (op = 3)
/-- has an operator so many operands? -/
def arB (op : Int) (l : Nat) : Bool :=
  if op = 1 ∨ op = 2 ∨ op = 3 then decide (l = 0) else if op = 4 ∨ op = 6 ∨ op = 7 then decide (l = 1) else if op = 5 then true
  else if 8 ≤ op ∧ op ≤ 21 then decide (l = 2) else false
noncomputable def okB (x : Ex) : Bool :=
  (x.op == 1 || (x.kind == 0 && x.n == 0)) && (x.op != 1 || constB x.kind x.n) && arB x.op x.args.length && nmB x.s (namedOf x.op) && nmB x.f (fieldOf x.op)
mutual
noncomputable def Ex.ok : Ex → Bool
  | ⟨op, kind, n, s, f, args⟩ => okB ⟨op, kind, n, s, f, args⟩ && okL args
noncomputable def okL : List Ex → Bool
  | [] => true
  | x :: xs => x.ok && okL xs
end
theorem Ex.ok_eq (x : Ex) : x.ok = (okB x && okL x.args) := by cases x; rw [Ex.ok]
theorem okL_iff {xs : List Ex} : okL xs = true ↔ ∀ k, k < xs.length → (xs.getD k ex0).ok = true := by
  induction xs with
  | nil => rw [okL]; simp
  | cons x xs ih =>
    rw [okL, Bool.and_eq_true, ih]
    constructor
    · intro ⟨h1, h2⟩ k hk
      cases k with
      | zero => simpa [List.getD] using h1
      | succ k => have := h2 k (by simpa using hk); simpa [List.getD] using this
    · intro h
      exact ⟨by have := h 0 (by simp); simpa [List.getD] using this, fun k hk => by have := h (k + 1) (by simpa using hk); simpa [List.getD] using this⟩

/-! the counter -/
structure Cnt (w : World) (bp : Nat) (n : Int) : Prop where
  n : w.cell? ⟨bp, 0, none⟩ = some (.int .i64 n)
  d : ∃ dp, w.cell? ⟨bp, 1, none⟩ = some (.int .i64 dp)
  f0 : w.frozen? ⟨bp, 0, none⟩ = false
  f1 : w.frozen? ⟨bp, 1, none⟩ = false

theorem grown_set (w : World) (p : Addr) (v : Value) : w.grownBy (w.setCell p v) (some p.block) :=
  ⟨rfl, rfl, rfl, by simp [World.setCell], fun k _ hk => Below.heap_setCell _ _ _ _ (fun e => hk (by rw [e]))⟩
theorem grown_trans {a b c : World} {r : Option Nat} (h : a.grownBy b r) (k : b.grownBy c r) : a.grownBy c r :=
  ⟨k.os.trans h.os, k.tape.trans h.tape, k.output.trans h.output, Nat.le_trans h.size k.size, fun i hi hr => (k.block i (Nat.lt_of_lt_of_le hi h.size) hr).trans (h.block i hi hr)⟩
theorem grown_refl (w : World) (r : Option Nat) : w.grownBy w r := ⟨rfl, rfl, rfl, Nat.le_refl _, fun _ _ _ => rfl⟩
theorem grown_alloc (w : World) (o : Obj) (r : Option Nat) : w.grownBy (w.alloc o) r :=
  ⟨rfl, rfl, rfl, by simp, fun k hk _ => Below.heap_alloc _ _ _ hk⟩
theorem grown_below {a b : World} {D : Nat} {r : Option Nat} (h : Below D a b) (hD : a.heap.size ≤ D) : a.grownBy b r :=
  ⟨h.os, h.tape, h.output, h.size, fun k hk _ => h.block k (by omega)⟩
theorem grown_cell {a b : World} {r : Nat} (h : a.grownBy b (some r)) {p : Addr} (hp : p.block < a.heap.size) (hr : p.block ≠ r) : b.cell? p = a.cell? p :=
  World.cell?_of_block (h.block p.block hp (fun e => hr (Option.some.inj e)))
theorem grown_same {a b : World} {r B : Nat} (h : a.grownBy b (some r)) (hB : B ≤ r) (hr : r < a.heap.size) : Same B a b :=
  fun k hk => h.block k (by omega) (fun e => by have := Option.some.inj e; omega)

def addB (n d : Int) : Bool := decide (n + 1 ≤ 500 ∧ d ≤ 14)
def AddSays (n d : Int) (bp : Nat) (w : World) (e : Ending) (w' : World) : Prop :=
  e = .returned (.bool (addB n d)) ∧ Cnt w' bp (n + 1) ∧ w.grownBy w' (some bp)

theorem cnt_after {w : World} {bp : Nat} {n m e dp : Int} (h0 : w.cell? ⟨bp, 0, none⟩ = some (.int .i64 n)) (h1 : w.cell? ⟨bp, 1, none⟩ = some (.int .i64 dp)) (f0 : w.frozen? ⟨bp, 0, none⟩ = false) (f1 : w.frozen? ⟨bp, 1, none⟩ = false) :
    Cnt ((w.setCell ⟨bp, 0, none⟩ (.int .i64 m)).setCell ⟨bp, 1, none⟩ (.int .i64 e)) bp m := by
  refine ⟨?_, ⟨e, ?_⟩, ?_, ?_⟩
  · rw [World.cell?_setCell_other _ _ _ _ (by simp), World.cell?_setCell_same _ _ _ h0]
  · exact World.cell?_setCell_same _ _ _ (u := .int .i64 dp) (by rw [World.cell?_setCell_other _ _ _ _ (by simp)]; exact h1)
  · simp [f0]
  · simp [f1]

set_option maxHeartbeats 1000000 in
theorem add57 (bp : Nat) (n d : Int) (w : World) (hn0 : 0 ≤ n) (hn1 : n ≤ 1000) (hc : Cnt w bp n) :
    Calls Try.prog 57 #[.pointer (some ⟨bp, 0, none⟩), .int .i64 d] w (AddSays n d bp w) := by
  obtain ⟨h0, ⟨dp, h1⟩, f0, f1⟩ := hc
  have hg : ∀ e : Int, Hid (w.grownBy ((w.setCell ⟨bp, 0, none⟩ (.int .i64 (n + 1))).setCell ⟨bp, 1, none⟩ (.int .i64 e)) (some bp)) := fun e => hid (grown_trans (grown_set _ _ _) (grown_set _ _ _))
  have hcn : ∀ e : Int, Hid (Cnt ((w.setCell ⟨bp, 0, none⟩ (.int .i64 (n + 1))).setCell ⟨bp, 1, none⟩ (.int .i64 e)) bp (n + 1)) := fun e => hid (cnt_after h0 h1 f0 f1)
  by_cases hdp : dp < d
  all_goals
    have hg' := hg
    have hcn' := hcn
    by_cases h5 : n + 1 ≤ 500
    · have HT : Hid (addB n d = decide (d ≤ 14)) := hid (by simp [addB, h5])
      go_enter Try.func57, Try.ntmps57
      go_wp2
      go_ret
      exact ⟨retBool HT.out.symm, (hcn _).out, (hg _).out⟩
    · have HT : Hid (addB n d = false) := hid (by simp [addB, h5])
      go_enter Try.func57, Try.ntmps57
      go_wp2
      go_ret
      exact ⟨retBool HT.out.symm, (hcn _).out, (hg _).out⟩

/-- is a number in a range? -/
def inR (lo v hi : Int) : Bool := decide (lo ≤ v ∧ v ≤ hi)
set_option maxHeartbeats 400000 in
theorem within59 (v lo hi : Int) (w : World) : Calls Try.prog 59 #[.int .i64 v, .int .i64 lo, .int .i64 hi] w fun e w' => e = .returned (.bool (inR lo v hi)) ∧ w = w' := by
  by_cases h : lo ≤ v
  · have HT : Hid (inR lo v hi = decide (v ≤ hi)) := hid (by simp [inR, h])
    go_enter Try.func59, Try.ntmps59
    go_wp2
    go_ret
    exact ⟨retBool HT.out.symm, rfl⟩
  · have HT : Hid (inR lo v hi = false) := hid (by simp [inR, h])
    go_enter Try.func59, Try.ntmps59
    go_wp2
    go_ret
    exact ⟨retBool HT.out.symm, rfl⟩

set_option maxHeartbeats 400000 in
theorem const58 (k n : Int) (w : World) : Calls Try.prog 58 #[.int .i64 k, .int .i64 n] w fun e w' => e = .returned (.bool (constB k n)) ∧ w = w' := by
  have C := fun v lo hi W => hid (within59 v lo hi W)
  by_cases h1 : k = 1
  · subst h1
    have HT : Hid (constB 1 n = inR 0 n 1) := hid (by unfold constB inR; rw [decide_eq_decide]; omega)
    go_enter Try.func58, Try.ntmps58
    go_wp2_with (go_at_call 59; refine (C _ _ _ _).out.mono ?_; rintro e w' ⟨rfl, rfl⟩)
    go_ret
    exact ⟨retBool HT.out.symm, rfl⟩
  by_cases h2 : k = 2
  · subst h2
    have HT : Hid (constB 2 n = inR 0 n 2147483647) := hid (by unfold constB inR; rw [decide_eq_decide]; omega)
    go_enter Try.func58, Try.ntmps58
    go_wp2_with (go_at_call 59; refine (C _ _ _ _).out.mono ?_; rintro e w' ⟨rfl, rfl⟩)
    go_ret
    exact ⟨retBool HT.out.symm, rfl⟩
  by_cases h3 : k = 3
  · subst h3
    have HT : Hid (constB 3 n = inR 0 n 2147483647) := hid (by unfold constB inR; rw [decide_eq_decide]; omega)
    go_enter Try.func58, Try.ntmps58
    go_wp2_with (go_at_call 59; refine (C _ _ _ _).out.mono ?_; rintro e w' ⟨rfl, rfl⟩)
    go_ret
    exact ⟨retBool HT.out.symm, rfl⟩
  · have HT : Hid (constB k n = false) := hid (by unfold constB; simp [h1, h2, h3])
    have b1 : (k == 1) = false := by simpa using h1
    have b2 : (k == 2) = false := by simpa using h2
    have b3 : (k == 3) = false := by simpa using h3
    clear h1 h2 h3
    go_enter Try.func58, Try.ntmps58
    go_wp2
    go_ret
    exact ⟨retBool HT.out.symm, rfl⟩

set_option maxHeartbeats 400000 in
theorem named60 (s : ByteArray) (b : Bool) (w : World) (hs : s.size ≤ maxLen) : Calls Try.prog 60 #[.string s, .bool b] w fun e w' => e = .returned (.bool (nmB s b)) ∧ w = w' := by
  have C := fun W => hid (name65 s W hs)
  cases b
  · by_cases h : s.size = 0
    · have HT : Hid (nmB s false = true) := hid (by unfold nmB; simp [h])
      have hne : s.toList = [] := toList_nil.2 h
      clear h
      go_enter Try.func60, Try.ntmps60
      go_wp2
      go_ret
      exact ⟨retBool HT.out.symm, rfl⟩
    · have HT : Hid (nmB s false = false) := hid (by unfold nmB; simp [h])
      have hne : ¬ s.toList = [] := fun e => h (toList_nil.1 e)
      clear h
      go_enter Try.func60, Try.ntmps60
      go_wp2
      go_ret
      exact ⟨retBool (by rw [HT.out]; simp [hne]), rfl⟩
  · have HT : Hid (nmB s true = nameB s) := hid (by unfold nmB; rfl)
    go_enter Try.func60, Try.ntmps60
    go_wp2_with (go_at_call 65; refine (C _).out.mono ?_; rintro e w' ⟨rfl, rfl⟩)
    go_ret
    exact ⟨retBool HT.out.symm, rfl⟩
end Go.Proofs.Ytmkpoaapcghohaa
