/- Contract: eval.fold. -/
import Derived.Test.YtmkpoaapcghohaaFoldV
import Derived.Deep.CutRange
import Derived.Deep.MidRow
namespace Go.Proofs.Ytmkpoaapcghohaa
open Go.RowKit
theorem info49 : (Try.prog.info? 49).map (fun i => (i.zero, i.size, i.bytes)) = some (some (.agg #[.int .i64 0, .int .i64 0, .int .i64 0, .string ⟨#[]⟩, .string ⟨#[]⟩, .slice none 0 0]), 6, 80) := by kernel_rfl

/-- blocks below L and from base on are as they were -/
structure Side (L base : Nat) (a b : World) : Prop where
  os : b.os = a.os
  tape : b.tape = a.tape
  output : b.output = a.output
  size : a.heap.size ≤ b.heap.size
  block : ∀ k, k < a.heap.size → (k < L ∨ base ≤ k) → b.heap[k]? = a.heap[k]?
theorem Side.refl (L base : Nat) (a : World) : Side L base a a := ⟨rfl, rfl, rfl, Nat.le_refl _, fun _ _ _ => rfl⟩
theorem Side.set {L base : Nat} {a b : World} (h : Side L base a b) {p : Addr} (h1 : L ≤ p.block) (h2 : p.block < base) (v : Value) : Side L base a (b.setCell p v) :=
  ⟨h.os, h.tape, h.output, by simp [World.setCell]; exact h.size, fun k hk h3 => (Below.heap_setCell _ _ _ _ (by omega)).trans (h.block k hk h3)⟩
theorem Side.below {L base D : Nat} {a b c : World} (h : Side L base a b) (hb : Below D b c) (hD : a.heap.size ≤ D) : Side L base a c :=
  ⟨hb.os.trans h.os, hb.tape.trans h.tape, hb.output.trans h.output, Nat.le_trans h.size hb.size, fun k hk h3 => (hb.block k (by omega)).trans (h.block k hk h3)⟩
theorem Side.alloc {L base : Nat} {a b : World} (h : Side L base a b) (o : Obj) : Side L base a (b.alloc o) :=
  h.below (D := b.heap.size) ((Below.refl _ _).alloc (Nat.le_refl _) _) h.size
theorem Side.drew {L base : Nat} {a b : World} (h : Side L base a b) : Side L base a b.drew := ⟨h.os, h.tape, h.output, h.size, h.block⟩
theorem FoldGot.of {y : Ex} {W wr wf : World} {A : Option Addr} {c base : Nat} (hB : Below W.heap.size W wr) (hf : Fits y c) (hr : RdsP wr (fun b => base ≤ b ∧ b < wr.heap.size) y.args A) (hb : W.heap.size ≤ base)
    (hs : Side W.heap.size base wr wf) : FoldGot y W wf A c :=
  ⟨⟨hs.os.trans hB.os, hs.tape.trans hB.tape, hs.output.trans hB.output, Nat.le_trans hB.size hs.size, fun k hk => (hs.block k (Nat.lt_of_lt_of_le hk hB.size) (.inl hk)).trans (hB.block k hk)⟩,
   hf, hr.to (fun k hk => hs.block k hk.2 (.inr hk.1)) (fun k hk => ⟨by omega, by have := hs.size; omega⟩)⟩

/-- the box of the expression at b, the result at b + 1 -/
structure TF (b : Nat) (op kind n : Int) (s f : ByteArray) (A : Option Addr) (l c : Nat) (w : World) : Prop where
  q : w.cell? ⟨b, 0, none⟩ = some (.int .i64 op) ∧ w.cell? ⟨b, 1, none⟩ = some (.int .i64 kind) ∧ w.cell? ⟨b, 2, none⟩ = some (.int .i64 n) ∧ w.cell? ⟨b, 3, none⟩ = some (.string s) ∧ w.cell? ⟨b, 4, none⟩ = some (.string f) ∧ w.cell? ⟨b, 5, none⟩ = some (.slice A l c)
  r : w.cell? ⟨b + 1, 0, none⟩ = some (.int .i64 0) ∧ w.cell? ⟨b + 1, 1, none⟩ = some (.int .i64 0) ∧ w.cell? ⟨b + 1, 2, none⟩ = some (.int .i64 0) ∧ w.cell? ⟨b + 1, 3, none⟩ = some (.string ⟨#[]⟩) ∧ w.cell? ⟨b + 1, 4, none⟩ = some (.string ⟨#[]⟩) ∧ w.cell? ⟨b + 1, 5, none⟩ = some (.slice none 0 0)
  f : ∀ i, i < 6 → w.frozen? ⟨b + 1, i, none⟩ = false
  g : ∀ i, i < 6 → w.frozen? ⟨b, i, none⟩ = false
theorem TF.to {b : Nat} {op kind n : Int} {s f : ByteArray} {A : Option Addr} {l c : Nat} {w w' : World} (h : TF b op kind n s f A l c w) (h0 : w'.heap[b]? = w.heap[b]?) (h1 : w'.heap[b + 1]? = w.heap[b + 1]?) : TF b op kind n s f A l c w' := by
  have e : ∀ i, w'.cell? ⟨b, i, none⟩ = w.cell? ⟨b, i, none⟩ := fun i => World.cell?_of_block h0
  have e1 : ∀ i, w'.cell? ⟨b + 1, i, none⟩ = w.cell? ⟨b + 1, i, none⟩ := fun i => World.cell?_of_block h1
  refine ⟨?_, ?_, fun i hi => (World.frozen?_of_block h1).trans (h.f i hi), fun i hi => (World.frozen?_of_block h0).trans (h.g i hi)⟩
  · rw [e, e, e, e, e, e]; exact h.q
  · rw [e1, e1, e1, e1, e1, e1]; exact h.r
theorem TF.below {b D : Nat} {op kind n : Int} {s f : ByteArray} {A : Option Addr} {l c : Nat} {w w' : World} (h : TF b op kind n s f A l c w) (hb : Below D w w') (hD : b + 1 < D) : TF b op kind n s f A l c w' :=
  h.to (hb.block b (by omega)) (hb.block (b + 1) hD)
theorem TF.start (W : World) (op kind n : Int) (s f : ByteArray) (A : Option Addr) (l c : Nat) :
    TF W.heap.size op kind n s f A l c ((W.alloc (.cells #[.int .i64 op, .int .i64 kind, .int .i64 n, .string s, .string f, .slice A l c] 49)).alloc (.cells #[.int .i64 0, .int .i64 0, .int .i64 0, .string ⟨#[]⟩, .string ⟨#[]⟩, .slice none 0 0] 49)) := by
  refine ⟨by simp, by simp, fun i _ => by simp, fun i _ => by simp⟩
theorem TF.set {b : Nat} {op kind n : Int} {s f : ByteArray} {A A' : Option Addr} {l c l' c' : Nat} {w : World} (h : TF b op kind n s f A l c w) : TF b op kind n s f A' l' c' (w.setCell ⟨b, 5, none⟩ (.slice A' l' c')) := by
  obtain ⟨⟨q0, q1, q2, q3, q4, q5⟩, hr, hf, hg⟩ := h
  refine ⟨⟨?_, ?_, ?_, ?_, ?_, World.cell?_setCell_same _ _ _ q5⟩, ?_, fun i hi => ?_, fun i hi => ?_⟩
  · rw [World.cell?_setCell_other _ _ _ _ (by simp)]; exact q0
  · rw [World.cell?_setCell_other _ _ _ _ (by simp)]; exact q1
  · rw [World.cell?_setCell_other _ _ _ _ (by simp)]; exact q2
  · rw [World.cell?_setCell_other _ _ _ _ (by simp)]; exact q3
  · rw [World.cell?_setCell_other _ _ _ _ (by simp)]; exact q4
  · rw [World.cell?_setCell_other _ _ _ _ (by simp), World.cell?_setCell_other _ _ _ _ (by simp), World.cell?_setCell_other _ _ _ _ (by simp), World.cell?_setCell_other _ _ _ _ (by simp), World.cell?_setCell_other _ _ _ _ (by simp), World.cell?_setCell_other _ _ _ _ (by simp)]; exact hr
  · simp [hf i hi]
  · simp [hg i hi]

theorem args_own {base : Nat} {fs : List Ex} {wr w1 w2 : World} {k : Nat} {v : Value} {cs : List Value} {AA : Nat → Option Addr} {cc : Nat → Nat} {y : Ex} {A : Option Addr} {c : Nat} (h : ArgsTo base fs wr k v cs AA cc)
    (h1 : Below wr.heap.size wr w1) (got : FoldGot y w1 w2 A c) (o : Obj) : (w2.alloc o).ownsRow base 49 6 v k cs := by
  have hb : Below wr.heap.size wr w2 := h1.trans (got.b.mono h1.size)
  exact (h.own.kept (grown_below (r := none) hb (Nat.le_refl _)) (by cases v.ownBlock <;> simp)).alloc _
theorem args_round {base : Nat} {fs : List Ex} {wr w1 w2 w3 : World} {k : Nat} {v v' : Value} {cs : List Value} {AA : Nat → Option Addr} {cc : Nat → Nat} {y : Ex} {A : Option Addr} {c : Nat} (h : ArgsTo base fs wr k v cs AA cc)
    (hbase : base ≤ wr.heap.size) (h1 : Below wr.heap.size wr w1) (got : FoldGot y w1 w2 A c) (o : Obj) (hy : fs.getD k ex0 = y) (hown : w3.ownsRow base 49 6 v' (k + 1) (cs ++ sixOf y A c)) (hg : (w2.alloc o).grownBy w3 v.ownBlock)
    (hv : v'.ownBlock = v.ownBlock ∨ v'.ownBlock = some (w2.alloc o).heap.size) :
    ArgsTo base fs w3 (k + 1) v' (cs ++ sixOf y A c) (fun j => if j = k then A else AA j) (fun j => if j = k then c else cc j) ∧ Below base wr w3 := by
  have hb : Below wr.heap.size wr (w2.alloc o) := (h1.trans (got.b.mono h1.size)).alloc (Nat.le_trans h1.size got.b.size) _
  refine ⟨args_next h hy hb hbase hown hg hv got.f (got.r.to (fun b hb2 => Below.heap_alloc _ _ _ hb2.2) (fun b hb2 => ⟨Nat.le_trans h1.size hb2.1, by simp; omega⟩)), ?_⟩
  exact (hb.mono hbase).grown hg (Nat.le_trans hbase hb.size) (fun g e => (h.own.lt g e).1)

theorem says_x {op kind n : Int} {s f : ByteArray} {fs : List Ex} {l : Nat} {y : Ex} {W wf : World} {A : Option Addr} {c : Nat} (hy : y = ⟨op, kind, n, s, f, fs⟩) (hl : fs.length = l) (hg : FoldGot ⟨op, kind, n, s, f, fs⟩ W wf A c) :
    FoldSays y W (.returned (.agg #[.int .i64 op, .int .i64 kind, .int .i64 n, .string s, .string f, .slice A l c])) wf := by subst hl hy; exact ⟨A, c, rfl, hg⟩
theorem set6 {L base : Nat} {a w : World} (h : Side L base a w) {b : Nat} (h1 : L ≤ b) (h2 : b < base) (v0 v1 v2 v3 v4 v5 : Value) :
    Side L base a ((((((w.setCell ⟨b, 0, none⟩ v0).setCell ⟨b, 1, none⟩ v1).setCell ⟨b, 2, none⟩ v2).setCell ⟨b, 3, none⟩ v3).setCell ⟨b, 4, none⟩ v4).setCell ⟨b, 5, none⟩ v5) :=
  (((((h.set (p := ⟨b, 0, none⟩) h1 h2 v0).set (p := ⟨b, 1, none⟩) h1 h2 v1).set (p := ⟨b, 2, none⟩) h1 h2 v2).set (p := ⟨b, 3, none⟩) h1 h2 v3).set (p := ⟨b, 4, none⟩) h1 h2 v4).set (p := ⟨b, 5, none⟩) h1 h2 v5
theorem size49 : (Try.prog.info? 49).map (·.size) = some 6 := by kernel_rfl
theorem load_six (w : World) (b : Nat) (v0 v1 v2 v3 v4 v5 : Value) (h0 : w.cell? ⟨b, 0, none⟩ = some v0) (h1 : w.cell? ⟨b, 1, none⟩ = some v1) (h2 : w.cell? ⟨b, 2, none⟩ = some v2) (h3 : w.cell? ⟨b, 3, none⟩ = some v3)
    (h4 : w.cell? ⟨b, 4, none⟩ = some v4) (h5 : w.cell? ⟨b, 5, none⟩ = some v5) : (loadVar 49 ⟨b, 0, none⟩).run Try.prog w = .ok (.agg #[v0, v1, v2, v3, v4, v5]) w := by
  refine run_loadVar_mid w b 0 49 [v0, v1, v2, v3, v4, v5] _ (fun j v hj => ?_) Try.underlying49 rfl size49
  rw [Nat.zero_add]
  match j, hj with
  | 0, hj => simp at hj; subst hj; exact h0
  | 1, hj => simp at hj; subst hj; exact h1
  | 2, hj => simp at hj; subst hj; exact h2
  | 3, hj => simp at hj; subst hj; exact h3
  | 4, hj => simp at hj; subst hj; exact h4
  | 5, hj => simp at hj; subst hj; exact h5
  | j + 6, hj => simp at hj
theorem ret_set6 {fn : Func} {p : Tmp} {R : Ending → World → Prop} {a : Act} {w : World} {b : Nat} {v0 v1 v2 v3 v4 v5 u0 u1 u2 u3 u4 u5 : Value} (h : fn.results = #[.cell p 49]) (hp : a.tmps.getD p undef = .pointer (some ⟨b, 0, none⟩)) (hd : a.defers = [])
    (hr : w.cell? ⟨b, 0, none⟩ = some u0 ∧ w.cell? ⟨b, 1, none⟩ = some u1 ∧ w.cell? ⟨b, 2, none⟩ = some u2 ∧ w.cell? ⟨b, 3, none⟩ = some u3 ∧ w.cell? ⟨b, 4, none⟩ = some u4 ∧ w.cell? ⟨b, 5, none⟩ = some u5)
    (hR : R (.returned (.agg #[v0, v1, v2, v3, v4, v5])) ((((((w.setCell ⟨b, 0, none⟩ v0).setCell ⟨b, 1, none⟩ v1).setCell ⟨b, 2, none⟩ v2).setCell ⟨b, 3, none⟩ v3).setCell ⟨b, 4, none⟩ v4).setCell ⟨b, 5, none⟩ v5)) :
    bodyPost Try.prog fn R .ret a ((((((w.setCell ⟨b, 0, none⟩ v0).setCell ⟨b, 1, none⟩ v1).setCell ⟨b, 2, none⟩ v2).setCell ⟨b, 3, none⟩ v3).setCell ⟨b, 4, none⟩ v4).setCell ⟨b, 5, none⟩ v5) := by
  obtain ⟨r0, r1, r2, r3, r4, r5⟩ := hr
  refine bodyPost_ret ?_ hd hR
  have hp' : a.tmps[p]?.getD undef = .pointer (some ⟨b, 0, none⟩) := by simpa using hp
  simp only [results, h]
  simp [hp', asAddr]
  rw [load_six _ b v0 v1 v2 v3 v4 v5]
  · rw [World.cell?_setCell_other _ _ _ _ (by simp), World.cell?_setCell_other _ _ _ _ (by simp), World.cell?_setCell_other _ _ _ _ (by simp), World.cell?_setCell_other _ _ _ _ (by simp), World.cell?_setCell_other _ _ _ _ (by simp)]
    exact World.cell?_setCell_same _ _ _ r0
  · rw [World.cell?_setCell_other _ _ _ _ (by simp), World.cell?_setCell_other _ _ _ _ (by simp), World.cell?_setCell_other _ _ _ _ (by simp), World.cell?_setCell_other _ _ _ _ (by simp)]
    refine World.cell?_setCell_same _ _ _ (u := u1) ?_
    rw [World.cell?_setCell_other _ _ _ _ (by simp)]; exact r1
  · rw [World.cell?_setCell_other _ _ _ _ (by simp), World.cell?_setCell_other _ _ _ _ (by simp), World.cell?_setCell_other _ _ _ _ (by simp)]
    refine World.cell?_setCell_same _ _ _ (u := u2) ?_
    rw [World.cell?_setCell_other _ _ _ _ (by simp), World.cell?_setCell_other _ _ _ _ (by simp)]; exact r2
  · rw [World.cell?_setCell_other _ _ _ _ (by simp), World.cell?_setCell_other _ _ _ _ (by simp)]
    refine World.cell?_setCell_same _ _ _ (u := u3) ?_
    rw [World.cell?_setCell_other _ _ _ _ (by simp), World.cell?_setCell_other _ _ _ _ (by simp), World.cell?_setCell_other _ _ _ _ (by simp)]; exact r3
  · rw [World.cell?_setCell_other _ _ _ _ (by simp)]
    refine World.cell?_setCell_same _ _ _ (u := u4) ?_
    rw [World.cell?_setCell_other _ _ _ _ (by simp), World.cell?_setCell_other _ _ _ _ (by simp), World.cell?_setCell_other _ _ _ _ (by simp), World.cell?_setCell_other _ _ _ _ (by simp)]; exact r4
  · refine World.cell?_setCell_same _ _ _ (u := u5) ?_
    rw [World.cell?_setCell_other _ _ _ _ (by simp), World.cell?_setCell_other _ _ _ _ (by simp), World.cell?_setCell_other _ _ _ _ (by simp), World.cell?_setCell_other _ _ _ _ (by simp), World.cell?_setCell_other _ _ _ _ (by simp)]; exact r5
theorem RdsP.get {w : World} {P : Nat → Prop} {xs : List Ex} {A : Option Addr} (h : RdsP w P xs A) {i : Nat} (hi : i < xs.length) :
    ∃ a A' c, A = some a ∧ P a.block ∧ CellsAt w (a.add (i * 6)) (xs.getD i ex0) A' c ∧ Fits (xs.getD i ex0) c ∧ RdsP w P (xs.getD i ex0).args A' := by
  cases h with
  | nl A => simp at hi
  | sm xs a AA cc hb hc hf hr => exact ⟨a, AA i, cc i, rfl, hb, hc i hi, hf i hi, hr i hi⟩
theorem mid_none {x : Ex} (h : cst 0 x.args = none) : midF x (cst 0 x.args) = x := by rw [h]; rfl
theorem mid_zero {x : Ex} {q : Int} (h : cst 0 x.args = some q) (hr : resF x.op q = 0) : midF x (cst 0 x.args) = x := by rw [h]; simp only [midF]; rw [if_pos (.inr hr)]
theorem mid_no {x : Ex} {q : Int} (h : cst 0 x.args = some q) (hv : (valF x.op x.args).2 ≠ 0 ∨ (valF x.op x.args).1 < 0) : midF x (cst 0 x.args) = x := by
  rw [h]; simp only [midF, outF]; rw [if_pos hv]; split <;> rfl
theorem mid_yes {x : Ex} {q r v : Int} (h : cst 0 x.args = some q) (hq : 1 ≤ q) (hr : resF x.op q = r) (h0 : r ≠ 0) (h1 : valF x.op x.args = (v, 0)) (hv : ¬ v < 0) : midF x (cst 0 x.args) = ⟨1, r, v, ⟨#[]⟩, ⟨#[]⟩, []⟩ := by
  rw [h]; simp only [midF, outF]; rw [if_neg (by omega), if_neg (by rw [h1]; simp; omega), hr, h1]; rfl
theorem val_one {op : Int} {xs : List Ex} (h : xs.length = 1) : valF op xs = ((un op (xs.getD 0 ex0).n).1, 0) := by unfold valF; rw [if_pos h]
theorem val_two {op : Int} {xs : List Ex} (h : xs.length = 2) : valF op xs = ((bin op (xs.getD 0 ex0).n (xs.getD 1 ex0).n).1, (bin op (xs.getD 0 ex0).n (xs.getD 1 ex0).n).2.1) := by unfold valF; rw [if_neg (by omega)]
def FoldDo (w : World) (B : Nat) (x : Ex) (A : Option Addr) (c : Nat) : Prop := ∀ W : World, Same B w W → B ≤ W.heap.size → Calls Try.prog 41 #[(Value.agg #[.int .i64 x.op, .int .i64 x.kind, .int .i64 x.n, .string x.s, .string x.f, .slice A x.args.length c])] W (FoldSays x.fold W)

set_option maxHeartbeats 4000000 in
theorem fold41 (w : World) (B : Nat) (x : Ex) (A : Option Addr) (c : Nat) (hf : Fits x c) (hr : Rds w B x.args A) (hok : x.ok = true) (hm : x.args.length ≤ 1000)
    (ih : ∀ k, k < x.args.length → ∀ A' c', Fits (x.args.getD k ex0) c' → Rds w B (x.args.getD k ex0).args A' → FoldDo w B (x.args.getD k ex0) A' c') : FoldDo w B x A c := by
  intro W hS hB
  have HF := hid hf
  have HR := hid hr
  have IH := hid ih
  have HS := hid hS
  obtain ⟨op, kind, n, s, f, args⟩ := x
  have HOK := hid hok
  obtain ⟨i0, hi, hz0, hz1, hz2⟩ := info_parts info49
  have hl' : args.length ≤ 9223372036854775807 := by simp only at hm; omega
  clear hf hr ih hS hok
  simp only at *
  obtain ⟨W2, hW2⟩ : ∃ W2, W2 = (W.alloc (.cells #[.int .i64 op, .int .i64 kind, .int .i64 n, .string s, .string f, .slice A args.length c] 49)).alloc (.cells #[.int .i64 0, .int .i64 0, .int .i64 0, .string ⟨#[]⟩, .string ⟨#[]⟩, .slice none 0 0] 49) := ⟨_, rfl⟩
  have HTF : Hid (TF W.heap.size op kind n s f A args.length c W2) := hid (by rw [hW2]; exact TF.start _ _ _ _ _ _ _ _ _)
  have HZ : Hid (W2.heap.size = W.heap.size + 2) := hid (by rw [hW2]; simp)
  have HB0 : Hid (Below W.heap.size W W2) := hid (by rw [hW2]; exact ((Below.refl _ _).alloc (Nat.le_refl _) _).alloc (by simp) _)
  have HS2 : Hid (Same B w W2) := hid (HS.out.trans (Same.of_below HB0.out hB))
  go_enter Try.func41, Try.ntmps41
  go_wp2
  rw [← hW2]
  clear hW2
  go_loopw [3, 16] (fun v i wr => ∃ (k : Nat) (cs : List Value) (AA : Nat → Option Addr) (cc : Nat → Nat), k ≤ args.length ∧ i = .int .i64 k ∧ Hid (ArgsTo (W.heap.size + 2) (foldL args) wr k v cs AA cc) ∧ Hid (Below (W.heap.size + 2) W2 wr))
    (fun _ i _ => args.length - (intOf i).toNat)
  case atStart => exact ⟨0, [], fun _ => none, fun _ => 0, Nat.zero_le _, rfl, hid (ArgsTo.start _ _ _ _ _), hid (Below.refl _ _)⟩
  case round =>
    obtain ⟨k, cs, AA, cc, hk, rfl, HA, HB⟩ := hrel
    have hwr : W.heap.size + 2 ≤ wr.heap.size := by have := HB.out.size; have := HZ.out; omega
    by_cases hlt : k < args.length
    · have hSr : Same B w wr := HS2.out.trans (Same.of_below HB.out (by omega))
      obtain ⟨b, B', c2, rfl, hbb, hX, hF, hR2⟩ := HR.out.get hlt
      have hX2 := hX.to (w' := wr) (fun q hq => hSr.cell (by rw [hq, block_add]; exact hbb))
      have hq0 : (0 : Int) ≤ (k : Int) := by omega
      have hq1 : (k : Int) < (args.length : Int) := by omega
      have HY := hid (foldL_at hlt)
      have HE : ∀ o : Obj, Hid (Calls Try.prog 41 #[(Value.agg #[.int .i64 (args.getD k ex0).op, .int .i64 (args.getD k ex0).kind, .int .i64 (args.getD k ex0).n, .string (args.getD k ex0).s, .string (args.getD k ex0).f, .slice B' (args.getD k ex0).args.length c2])] (wr.alloc o) (FoldSays (args.getD k ex0).fold (wr.alloc o))) := fun o => hid (IH.out k hlt B' c2 hF hR2 _ (hSr.trans (Same.of_below ((Below.refl _ _).alloc (Nat.le_refl _) o) (by omega))) (by simp; omega))
      clear hX hF hR2 IH HR
      generalize (args.getD k ex0).fold = y at *
      generalize args.getD k ex0 = x at *
      obtain ⟨k0, k1, k2, k3, k4, k5⟩ := hX2
      go_wp2_with fail
      refine (HE _).out.mono ?_
      rintro e w2 ⟨A2, c3, rfl, hgot⟩
      have HG := hid hgot
      have HO := hid (args_own HA.out ((Below.refl _ _).alloc (Nat.le_refl _) _) hgot (.cells #[.int .i64 y.op, .int .i64 y.kind, .int .i64 y.n, .string y.s, .string y.f, .slice A2 y.args.length c3] 49))
      have hw2 := Nat.le_trans ((Below.refl wr.heap.size wr).alloc (Nat.le_refl _) (.cells #[.int .i64 x.op, .int .i64 x.kind, .int .i64 x.n, .string x.s, .string x.f, .slice B' x.args.length c2] 49)).size hgot.b.size
      clear hgot HE
      go_wp2_with (first | (at_builtin; refine wpList_append_own_at _ rfl (.tmp 20) (.tmp 23) 47 rfl (W.heap.size + 2) 49 i0 _ 6 80 Try.underlying47 hi hz0 hz1 hz2 rfl (by decide) _ k cs rfl HO.out ⟨w2.heap.size, 0, none⟩ 1 1 (sixOf y A2 c3) rfl rfl (six_at _ _ _ _ _ rfl) (six_one _ _ _) (by unfold maxLen; omega) (by omega) (by simp; omega) ?_))
      intro v' w3 hown hgrow _ hv
      have hn := args_round HA.out hwr ((Below.refl _ _).alloc (Nat.le_refl _) _) HG.out _ HY.out hown hgrow (by simpa using hv)
      have HA2 := hid hn.1
      have HB2 := hid (HB.out.trans hn.2)
      clear hown hgrow hv hn HA HB HG HO HY
      go_wp2
      go_roundw
      case rel => exact ⟨k + 1, _, _, _, by omega, by go_num, HA2, HB2⟩
      case measure => simp [intOf]; omega
    · obtain rfl : k = args.length := by omega
      obtain ⟨A2, cap, rfl, hc1, hc2, hrd, hg⟩ := args_done HA.out (foldL_len args)
      have HTr := hid (HTF.out.below HB.out (by omega))
      have hq5 := HTr.out.q.2.2.2.2.2
      have hg5 := HTr.out.g 5 (by omega)
      have HC := hid (And.intro hc1 hc2)
      have HRD := hid hrd
      have HG := hid hg
      clear hc1 hc2 hrd hg HA HR IH HS
      go_upto_region 8 with fail
      obtain ⟨W0, hW0⟩ : ∃ W0, W0 = wr.setCell ⟨W.heap.size, 5, none⟩ (.slice A2 args.length cap) := ⟨_, rfl⟩
      have HS0 : Hid (Side W.heap.size (W.heap.size + 2) wr W0) := hid (by rw [hW0]; exact (Side.refl _ _ _).set (by simp) (by simp) _)
      have HT0 : Hid (TF W.heap.size op kind n s f A2 args.length cap W0) := hid (by rw [hW0]; exact HTr.out.set)
      have hW0s : W0.heap.size = wr.heap.size := by rw [hW0]; simp [World.setCell]
      have HRD0 : Hid (RdsP W0 (fun b => W.heap.size + 2 ≤ b ∧ b < W0.heap.size) (foldL args) A2) := hid (HRD.out.to (fun k hk => HS0.out.block k hk.2 (.inr hk.1)) (fun k hk => by rw [hW0s]; exact hk))
      have HBW : Hid (Below W.heap.size W W0) := hid (by rw [hW0]; exact (HB0.out.trans (HB.out.mono (by omega))).setCell (by simp) _)
      have HX : Hid (∀ wf, Side W.heap.size (W.heap.size + 2) W0 wf → FoldGot ⟨op, kind, n, s, f, foldL args⟩ W wf A2 cap) := hid (fun wf hs =>
        FoldGot.of HBW.out ⟨HF.out.s, HF.out.f, by simp only [foldL_len]; exact HC.out.1, HC.out.2⟩ HRD0.out (by omega) hs)
      have hwr0 : W.heap.size + 2 ≤ W0.heap.size := by omega
      rw [← hW0]
      clear hW0s
      clear hW0 HTr hq5 hg5 HRD
      obtain ⟨⟨q0, q1, q2, q3, q4, q5⟩, ⟨r0, r1, r2, r3, r4, r5⟩, hfz, _⟩ := HT0.out
      have f0 := hfz 0 (by omega)
      have f1 := hfz 1 (by omega)
      have f2 := hfz 2 (by omega)
      have f3 := hfz 3 (by omega)
      have f4 := hfz 4 (by omega)
      have f5 := hfz 5 (by omega)
      clear hfz
      have HL := hid (foldL_len args)
      have hfold : Ex.fold ⟨op, kind, n, s, f, args⟩ = topE ⟨op, kind, n, s, f, foldL args⟩ := by rw [Ex.fold]
      generalize Ex.fold ⟨op, kind, n, s, f, args⟩ = y at *
      have HY := hid hfold
      clear hfold
      by_cases h6 : op < 6
      · have HY2 : Hid (y = ⟨op, kind, n, s, f, foldL args⟩) := hid (by rw [HY.out]; unfold topE; rw [if_pos h6])
        go_wp2
        refine ret_set6 rfl rfl rfl ⟨r0, r1, r2, r3, r4, r5⟩ ?_
        exact says_x HY2.out HL.out (HX.out _ (set6 (Side.refl _ _ _) (by omega) (by omega) _ _ _ _ _ _))
      · have hokp := HOK.out
        rw [Ex.ok, Bool.and_eq_true] at hokp
        have har := (okB_parts hokp.1).2
        simp only at har
        have HOL := hid (foldL_ok args hokp.2)
        clear hokp HOK
        have hop : op ≤ 21 ∧ 0 < args.length ∧ (args.length = 1 ∨ (8 ≤ op ∧ args.length = 2)) := by
          by_cases h67 : op = 6 ∨ op = 7
          · have := arB_one har h67; omega
          · have := arB_two har (by omega); omega
        obtain ⟨hop, hpos, hlen⟩ := hop
        obtain ⟨g, rfl, hg0, hg1⟩ := HG.out hpos
        have HAR := hid har
        clear har HG
        generalize foldL args = fs at *
        have hLx := HL.out
        obtain ⟨a1, A1, c1, he, _, hX1, hF1, hR1⟩ := HRD0.out.get (i := 0) (by omega)
        cases he
        have HF1 := hid hF1
        have HR1 := hid hR1
        have HOF := hid (okL_at HOL.out (k := 0) (by omega))
        clear hF1 hR1
        generalize hfi : fs.getD 0 ex0 = fi at *
        have HFI := hid hfi
        clear hfi
        obtain ⟨op1, kind1, n1, s1, f1', args1⟩ := fi
        obtain ⟨e0, e1, e2, e3, e4, e5⟩ := hX1
        have ea : (⟨g, 0, none⟩ : Addr).add (0 * 6) = ⟨g, 0, none⟩ := addr0 g 0
        simp only [ea, Nat.zero_add] at e0 e1 e2 e3 e4 e5
        clear ea
        have hz0' : (0 : Int) < (args.length : Int) := by omega
        have hb6 : ¬ op < 6 := h6
        go_upto_region 11 with fail
        obtain ⟨W1, hW1⟩ : ∃ W1, W1 = W0.alloc (.cells #[.int .i64 op1, .int .i64 kind1, .int .i64 n1, .string s1, .string f1', .slice A1 args1.length c1] 49) := ⟨_, rfl⟩
        have HB1 : Hid (Below W0.heap.size W0 W1) := hid (by rw [hW1]; exact (Below.refl _ _).alloc (Nat.le_refl _) _)
        have hw1s : W0.heap.size < W1.heap.size := by rw [hW1]; simp
        have HS1 : Hid (Side W.heap.size (W.heap.size + 2) W0 W1) := hid ((Side.refl _ _ _).below HB1.out (Nat.le_refl _))
        have HT1 : Hid (TF W.heap.size op kind n s f (some ⟨g, 0, none⟩) args.length cap W1) := hid (HT0.out.below HB1.out (by omega))
        have p0 : W1.cell? ⟨W0.heap.size, 0, none⟩ = some (.int .i64 op1) := by rw [hW1]; simp
        have p1 : W1.cell? ⟨W0.heap.size, 1, none⟩ = some (.int .i64 kind1) := by rw [hW1]; simp
        have p2 : W1.cell? ⟨W0.heap.size, 2, none⟩ = some (.int .i64 n1) := by rw [hW1]; simp
        have p3 : W1.cell? ⟨W0.heap.size, 3, none⟩ = some (.string s1) := by rw [hW1]; simp
        have p4 : W1.cell? ⟨W0.heap.size, 4, none⟩ = some (.string f1') := by rw [hW1]; simp
        have p5 : W1.cell? ⟨W0.heap.size, 5, none⟩ = some (.slice A1 args1.length c1) := by rw [hW1]; simp
        have HFst : Hid (∀ wf, Side W.heap.size (W.heap.size + 2) W0 wf → FoldGot ⟨op1, kind1, n1, s1, f1', args1⟩ W wf A1 c1) := hid (fun wf hs => FoldGot.of HBW.out HF1.out HR1.out (by omega) hs)
        have HC50 : Hid (Calls Try.prog 50 #[.slice (some ⟨g, 0, none⟩) args.length cap] W1 (CstSays fs W1)) := hid (by
          rw [← hLx]
          exact constants50 fs _ cap W1 ((HRD0.out.to (W := W1) (Q := fun b => b < W1.heap.size) (fun k hk => HB1.out.block k hk.2) (fun k hk => Nat.lt_trans hk.2 hw1s)).rds (fun k hk => hk)) (by omega) (by rw [hLx]; exact HC.out.1) HC.out.2 (by omega) (fun k hk => gc_of (okL_at HOL.out hk)))
        rw [← hW1]
        clear hW1 q0 q1 q2 q3 q4 q5 r0 r1 r2 r3 r4 r5 f0 f1 f2 f3 f4 f5 e0 e1 e2 e3 e4 e5 HT0
        obtain ⟨⟨q0, q1, q2, q3, q4, q5⟩, ⟨r0, r1, r2, r3, r4, r5⟩, hfz, _⟩ := HT1.out
        have f0 := hfz 0 (by omega)
        have f1 := hfz 1 (by omega)
        have f2 := hfz 2 (by omega)
        have f3 := hfz 3 (by omega)
        have f4 := hfz 4 (by omega)
        have f5 := hfz 5 (by omega)
        clear hfz
        generalize hlb : leftB op ⟨op1, kind1, n1, s1, f1', args1⟩ = lb
        have HLB := hid hlb
        clear hlb
        go_cut [61] from 35 to 61 (fun v wx => v = .bool lb ∧ wx = W1)
        case first =>
          have HLB' : Hid (((op == 8 || op == 10) && op1 == 1 && kind1 == 1 && ((n1 == 1) == (op == 8))) = lb) := HLB
          clear HLB
          by_cases wa8 : (op == 8) = true
          · have ha8 := wa8; clear wa8
            by_cases wo : (op1 == 1) = true
            · have ho := wo; clear wo
              by_cases wk : (kind1 == 1) = true
              · have hk := wk; clear wk
                by_cases wn : (n1 == 1) = true
                · have hn := wn; clear wn
                  have HV : Hid (lb = true) := hid (by rw [← HLB'.out]; simp [ha8, ho, hk, hn])
                  clear HLB'
                  go_wp2
                  go_meet
                  exact ⟨by rw [HV.out], rfl⟩
                · have hn := Bool.eq_false_iff.2 wn; clear wn
                  have HV : Hid (lb = false) := hid (by rw [← HLB'.out]; simp [ha8, ho, hk, hn])
                  clear HLB'
                  go_wp2
                  go_meet
                  exact ⟨by rw [HV.out], rfl⟩
              · have hk := Bool.eq_false_iff.2 wk; clear wk
                have HV : Hid (lb = false) := hid (by rw [← HLB'.out]; simp [ha8, ho, hk])
                clear HLB'
                go_wp2
                go_meet
                exact ⟨by rw [HV.out], rfl⟩
            · have ho := Bool.eq_false_iff.2 wo; clear wo
              have HV : Hid (lb = false) := hid (by rw [← HLB'.out]; simp [ha8, ho])
              clear HLB'
              go_wp2
              go_meet
              exact ⟨by rw [HV.out], rfl⟩
          · have ha8 := Bool.eq_false_iff.2 wa8; clear wa8
            by_cases wa10 : (op == 10) = true
            · have ha10 := wa10; clear wa10
              by_cases wo : (op1 == 1) = true
              · have ho := wo; clear wo
                by_cases wk : (kind1 == 1) = true
                · have hk := wk; clear wk
                  by_cases wn : (n1 == 1) = true
                  · have hn := wn; clear wn
                    have HV : Hid (lb = false) := hid (by rw [← HLB'.out]; simp [ha8, ha10, ho, hk, hn])
                    clear HLB'
                    go_wp2
                    go_meet
                    exact ⟨by rw [HV.out], rfl⟩
                  · have hn := Bool.eq_false_iff.2 wn; clear wn
                    have HV : Hid (lb = true) := hid (by rw [← HLB'.out]; simp [ha8, ha10, ho, hk, hn])
                    clear HLB'
                    go_wp2
                    go_meet
                    exact ⟨by rw [HV.out], rfl⟩
                · have hk := Bool.eq_false_iff.2 wk; clear wk
                  have HV : Hid (lb = false) := hid (by rw [← HLB'.out]; simp [ha8, ha10, ho, hk])
                  clear HLB'
                  go_wp2
                  go_meet
                  exact ⟨by rw [HV.out], rfl⟩
              · have ho := Bool.eq_false_iff.2 wo; clear wo
                have HV : Hid (lb = false) := hid (by rw [← HLB'.out]; simp [ha8, ha10, ho])
                clear HLB'
                go_wp2
                go_meet
                exact ⟨by rw [HV.out], rfl⟩
            · have ha10 := Bool.eq_false_iff.2 wa10; clear wa10
              have HV : Hid (lb = false) := hid (by rw [← HLB'.out]; simp [ha8, ha10])
              clear HLB'
              go_wp2
              go_meet
              exact ⟨by rw [HV.out], rfl⟩
        case rest =>
          obtain ⟨rfl, rfl⟩ := hcut
          cases lb
          · have HYM : Hid (y = midF ⟨op, kind, n, s, f, fs⟩ (cst 0 fs)) := hid (by rw [HY.out]; unfold topE; simp only; rw [if_neg h6, HFI.out, HLB.out]; rfl)
            have HCm : Hid (∀ (r v : Int) wf, Side W.heap.size (W.heap.size + 2) W0 wf → FoldGot ⟨1, r, v, ⟨#[]⟩, ⟨#[]⟩, []⟩ W wf none 0) := hid (fun r v wf hs => FoldGot.of HBW.out ⟨Nat.zero_le _, Nat.zero_le _, Nat.le_refl _, Nat.zero_le _⟩ (.nl none) (by omega) hs)
            go_wp2_with fail
            refine HC50.out.mono ?_
            clear HC50
            rintro e w2 (⟨hc, rfl, hb⟩ | ⟨q, g2, cap2, hc, hq1, hq2, he, hg2, hg3, hcells, hb⟩)
            · have HYX : Hid (y = ⟨op, kind, n, s, f, fs⟩) := hid (HYM.out.trans (mid_none (x := ⟨op, kind, n, s, f, fs⟩) hc))
              have HR51 := fun W => hid (result51 op 0 (by omega) hop (by omega) (by omega) W)
              have HT2 := hid (HT1.out.below hb (by omega))
              have HS2' := hid (HS1.out.below hb (by omega))
              clear hb hc HT1 HS1 p0 p1 p2 p3 p4 p5
              clear q0 q1 q2 q3 q4 q5 r0 r1 r2 r3 r4 r5 f0 f1 f2 f3 f4 f5
              obtain ⟨⟨q0, q1, q2, q3, q4, q5⟩, ⟨r0, r1, r2, r3, r4, r5⟩, hfz, _⟩ := HT2.out
              have f0 := hfz 0 (by omega)
              have f1 := hfz 1 (by omega)
              have f2 := hfz 2 (by omega)
              have f3 := hfz 3 (by omega)
              have f4 := hfz 4 (by omega)
              have f5 := hfz 5 (by omega)
              clear hfz
              generalize resF op 0 = rr at *
              go_wp2_with (first | (go_at_call 51; refine (HR51 _).out.mono ?_; rintro e w4 ⟨rfl, rfl⟩))
              refine ret_set6 rfl rfl rfl ⟨r0, r1, r2, r3, r4, r5⟩ ?_
              exact says_x HYX.out (by have := HL.out; omega) (HX.out _ (set6 HS2'.out (by omega) (by omega) _ _ _ _ _ _))
            · rw [hLx] at he
              subst he
              have HT2 := hid (HT1.out.below hb (by omega))
              have HS2' := hid (HS1.out.below hb (by omega))
              have hw2s := hb.size
              have HR51 := fun W => hid (result51 op q (by omega) hop (by omega) (by omega) W)
              have HCL := hid hcells
              have HQ := hid hc
              clear hb HT1 HS1 p0 p1 p2 p3 p4 p5 hcells hc
              clear q0 q1 q2 q3 q4 q5 r0 r1 r2 r3 r4 r5 f0 f1 f2 f3 f4 f5
              obtain ⟨⟨q0, q1, q2, q3, q4, q5⟩, ⟨r0, r1, r2, r3, r4, r5⟩, hfz, _⟩ := HT2.out
              have f0 := hfz 0 (by omega)
              have f1 := hfz 1 (by omega)
              have f2 := hfz 2 (by omega)
              have f3 := hfz 3 (by omega)
              have f4 := hfz 4 (by omega)
              have f5 := hfz 5 (by omega)
              clear hfz
              generalize hrr : resF op q = rr at *
              have HRR := hid hrr
              clear hrr
              by_cases hr0 : rr = 0
              · subst hr0
                have HYX : Hid (y = ⟨op, kind, n, s, f, fs⟩) := hid (HYM.out.trans (mid_zero (x := ⟨op, kind, n, s, f, fs⟩) HQ.out HRR.out))
                clear HRR
                go_wp2_with (first | (go_at_call 51; refine (HR51 _).out.mono ?_; rintro e w4 ⟨rfl, rfl⟩))
                refine ret_set6 rfl rfl rfl ⟨r0, r1, r2, r3, r4, r5⟩ ?_
                exact says_x HYX.out (by have := HL.out; omega) (HX.out _ (set6 HS2'.out (by omega) (by omega) _ _ _ _ _ _))
              · have hrb : (rr == 0) = false := beq_eq_false_iff_ne.2 hr0
                have HRN := hid hr0
                clear hr0
                have c0 : w2.cell? ⟨g2, 0, none⟩ = some (.int .i64 n1) := by
                  have h := HCL.out 0 (by omega)
                  rw [nums_at (by omega) HFI.out] at h
                  exact h
                rcases hlen with hl1 | ⟨h8, hl2⟩
                · have hlb1 : ((args.length : Int) == 1) = true := by rw [hl1]; rfl
                  obtain ⟨u1, u2, hu⟩ : ∃ u1 u2, un op n1 = (u1, u2) := ⟨_, _, rfl⟩
                  have HU : ∀ W, Hid (Calls Try.prog 16 #[.int .i64 op, .int .i64 n1] W fun e w' => e = .returned (.tuple #[.int .i64 u1, .int .i64 u2]) ∧ Below W.heap.size W w') := fun W => hid (by
                    have h := un16 op n1 W
                    unfold UnSays at h
                    rw [hu] at h
                    exact h)
                  have HV : Hid (valF op fs = (u1, 0)) := hid (by rw [val_one (by omega), HFI.out, hu])
                  clear hu
                  have HK : Hid (∀ w3 : World, Below w2.drew.heap.size w2.drew w3 → w3.cell? ⟨W.heap.size, 0, none⟩ = some (.int .i64 op) ∧ w3.cell? ⟨g2, 0, none⟩ = some (.int .i64 n1)) := hid (fun w3 hb3 => by
                    have g : ∀ p : Addr, p.block < w2.heap.size → w3.cell? p = w2.cell? p := fun p hp => hb3.cell hp
                    exact ⟨(g ⟨W.heap.size, 0, none⟩ (by simp only; omega)).trans q0, (g ⟨g2, 0, none⟩ hg3).trans c0⟩)
                  go_wp2_with (first | (go_at_call 51; refine (HR51 _).out.mono ?_; rintro e w4 ⟨rfl, rfl⟩))
                  go_region_held3 (fun w' => w'.cell? ⟨W.heap.size, 0, none⟩ = some (.int .i64 op) ∧ w'.cell? ⟨g2, 0, none⟩ = some (.int .i64 n1)) (first | go_keep | exact HK.out _ (by assumption)) (first | (go_at_call 16; refine (HU _).out.mono ?_; rintro e w3 ⟨rfl, hb3⟩))
                  have hb4 : Below w2.heap.size w2 w3 := (Below.refl _ _).drew.trans hb3
                  have HT3 := hid (HT2.out.below hb4 (by omega))
                  have HS3 := hid (HS2'.out.below hb4 (by omega))
                  clear hb3 hb4 HK HT2 HS2' HU HR51 HCL c0
                  clear q0 q1 q2 q3 q4 q5 r0 r1 r2 r3 r4 r5 f0 f1 f2 f3 f4 f5
                  obtain ⟨⟨q0, q1, q2, q3, q4, q5⟩, ⟨r0, r1, r2, r3, r4, r5⟩, hfz, _⟩ := HT3.out
                  have f0 := hfz 0 (by omega)
                  have f1 := hfz 1 (by omega)
                  have f2 := hfz 2 (by omega)
                  have f3 := hfz 3 (by omega)
                  have f4 := hfz 4 (by omega)
                  have f5 := hfz 5 (by omega)
                  clear hfz
                  by_cases hu0 : u1 < 0
                  · 
                    have HYX : Hid (y = ⟨op, kind, n, s, f, fs⟩) := hid (HYM.out.trans (mid_no (x := ⟨op, kind, n, s, f, fs⟩) HQ.out (by simp only; rw [HV.out]; exact .inr hu0)))
                    go_wp2
                    refine ret_set6 rfl rfl rfl ⟨r0, r1, r2, r3, r4, r5⟩ ?_
                    exact says_x HYX.out (by have := HL.out; omega) (HX.out _ (set6 HS3.out (by omega) (by omega) _ _ _ _ _ _))
                  · 
                    have HYX : Hid (y = ⟨1, rr, u1, ⟨#[]⟩, ⟨#[]⟩, []⟩) := hid (HYM.out.trans (mid_yes (x := ⟨op, kind, n, s, f, fs⟩) HQ.out hq1 HRR.out HRN.out HV.out hu0))
                    go_wp2
                    refine ret_set6 rfl rfl rfl ⟨r0, r1, r2, r3, r4, r5⟩ ?_
                    exact says_x HYX.out rfl (HCm.out _ _ _ (set6 HS3.out (by omega) (by omega) _ _ _ _ _ _))
                · have hlb2 : ((args.length : Int) == 1) = false := by rw [hl2]; rfl
                  have hz1' : (1 : Int) < (args.length : Int) := by omega
                  obtain ⟨n2, hn2⟩ : ∃ n2, (fs.getD 1 ex0).n = n2 := ⟨_, rfl⟩
                  have c1 : w2.cell? ⟨g2, 1, none⟩ = some (.int .i64 n2) := by
                    have h := HCL.out 1 (by omega)
                    rw [nums_at (by omega) rfl, hn2] at h
                    exact h
                  obtain ⟨u1, u2, u3, hu⟩ : ∃ u1 u2 u3, bin op n1 n2 = (u1, u2, u3) := ⟨_, _, _, rfl⟩
                  have HU : ∀ W, Hid (Calls Try.prog 13 #[.int .i64 op, .int .i64 n1, .int .i64 n2] W fun e w' => e = .returned (.tuple #[.int .i64 u1, .int .i64 u2, .int .i64 u3]) ∧ Below W.heap.size W w') := fun W => hid (by
                    have h := bin13 op n1 n2 W
                    unfold BinSays at h
                    rw [hu] at h
                    exact h)
                  have HV : Hid (valF op fs = (u1, u2)) := hid (by rw [val_two (by omega), HFI.out, hn2, hu])
                  clear hu hn2
                  have HK : Hid (∀ w3 : World, Below w2.drew.heap.size w2.drew w3 → w3.cell? ⟨W.heap.size, 0, none⟩ = some (.int .i64 op) ∧ w3.cell? ⟨g2, 0, none⟩ = some (.int .i64 n1) ∧ w3.cell? ⟨g2, 1, none⟩ = some (.int .i64 n2)) := hid (fun w3 hb3 => by
                    have g : ∀ p : Addr, p.block < w2.heap.size → w3.cell? p = w2.cell? p := fun p hp => hb3.cell hp
                    exact ⟨(g ⟨W.heap.size, 0, none⟩ (by simp only; omega)).trans q0, (g ⟨g2, 0, none⟩ hg3).trans c0, (g ⟨g2, 1, none⟩ hg3).trans c1⟩)
                  go_wp2_with (first | (go_at_call 51; refine (HR51 _).out.mono ?_; rintro e w4 ⟨rfl, rfl⟩))
                  go_region_held3 (fun w' => w'.cell? ⟨W.heap.size, 0, none⟩ = some (.int .i64 op) ∧ w'.cell? ⟨g2, 0, none⟩ = some (.int .i64 n1) ∧ w'.cell? ⟨g2, 1, none⟩ = some (.int .i64 n2)) (first | go_keep | exact HK.out _ (by assumption)) (first | (go_at_call 13; refine (HU _).out.mono ?_; rintro e w3 ⟨rfl, hb3⟩))
                  have hb4 : Below w2.heap.size w2 w3 := (Below.refl _ _).drew.trans hb3
                  have HT3 := hid (HT2.out.below hb4 (by omega))
                  have HS3 := hid (HS2'.out.below hb4 (by omega))
                  clear hb3 hb4 HK HT2 HS2' HU HR51 HCL c0
                  clear q0 q1 q2 q3 q4 q5 r0 r1 r2 r3 r4 r5 f0 f1 f2 f3 f4 f5
                  clear c1
                  obtain ⟨⟨q0, q1, q2, q3, q4, q5⟩, ⟨r0, r1, r2, r3, r4, r5⟩, hfz, _⟩ := HT3.out
                  have f0 := hfz 0 (by omega)
                  have f1 := hfz 1 (by omega)
                  have f2 := hfz 2 (by omega)
                  have f3 := hfz 3 (by omega)
                  have f4 := hfz 4 (by omega)
                  have f5 := hfz 5 (by omega)
                  clear hfz
                  by_cases hv0 : u2 = 0
                  · subst hv0
                    by_cases hu0 : u1 < 0
                    · 
                      have HYX : Hid (y = ⟨op, kind, n, s, f, fs⟩) := hid (HYM.out.trans (mid_no (x := ⟨op, kind, n, s, f, fs⟩) HQ.out (by simp only; rw [HV.out]; exact .inr hu0)))
                      go_wp2
                      refine ret_set6 rfl rfl rfl ⟨r0, r1, r2, r3, r4, r5⟩ ?_
                      exact says_x HYX.out (by have := HL.out; omega) (HX.out _ (set6 HS3.out (by omega) (by omega) _ _ _ _ _ _))
                    · 
                      have HYX : Hid (y = ⟨1, rr, u1, ⟨#[]⟩, ⟨#[]⟩, []⟩) := hid (HYM.out.trans (mid_yes (x := ⟨op, kind, n, s, f, fs⟩) HQ.out hq1 HRR.out HRN.out HV.out hu0))
                      go_wp2
                      refine ret_set6 rfl rfl rfl ⟨r0, r1, r2, r3, r4, r5⟩ ?_
                      exact says_x HYX.out rfl (HCm.out _ _ _ (set6 HS3.out (by omega) (by omega) _ _ _ _ _ _))
                  · have hvb : (u2 != 0) = true := by simp [hv0]
                    have HYX : Hid (y = ⟨op, kind, n, s, f, fs⟩) := hid (HYM.out.trans (mid_no (x := ⟨op, kind, n, s, f, fs⟩) HQ.out (by simp only; rw [HV.out]; exact .inl hv0)))
                    go_wp2
                    refine ret_set6 rfl rfl rfl ⟨r0, r1, r2, r3, r4, r5⟩ ?_
                    exact says_x HYX.out (by have := HL.out; omega) (HX.out _ (set6 HS3.out (by omega) (by omega) _ _ _ _ _ _))
          · have HY2 : Hid (y = ⟨op1, kind1, n1, s1, f1', args1⟩) := hid (by rw [HY.out]; unfold topE; simp only; rw [if_neg h6, HFI.out, HLB.out]; rfl)
            go_wp2
            refine ret_set6 rfl rfl rfl ⟨r0, r1, r2, r3, r4, r5⟩ ?_
            exact says_x HY2.out rfl (HFst.out _ (set6 HS1.out (by omega) (by omega) _ _ _ _ _ _))
end Go.Proofs.Ytmkpoaapcghohaa
