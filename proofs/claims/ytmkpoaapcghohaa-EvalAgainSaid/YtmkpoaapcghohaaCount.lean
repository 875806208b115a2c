/- Contracts: the counter's Expr, by the operator. -/
import Derived.Test.YtmkpoaapcghohaaForm
import Derived.Deep.QuietTactic
import Derived.BigQuiet
namespace Go.Proofs.Ytmkpoaapcghohaa
open Go.RowKit

/-- is a list well formed at a depth, n nodes having been counted? -/
def OkAll (n d : Int) (xs : List Ex) : Prop := okL xs = true ∧ d + (htL xs : Int) ≤ 15 ∧ n + (szL xs : Int) ≤ 500
def ExprsSays (n d : Int) (xs : List Ex) (bp : Nat) (w : World) (e : Ending) (w' : World) : Prop :=
  ∃ (b : Bool) (m : Int), e = .returned (.bool b) ∧ Cnt w' bp m ∧ w.grownBy w' (some bp) ∧ (b = true → OkAll n d xs ∧ m = n + (szL xs : Int)) ∧ (b = false → ¬ OkAll n d xs)
/-- .. of one expression -/
def OkOne (n d : Int) (x : Ex) : Prop := x.ok = true ∧ d + (x.ht : Int) ≤ 15 ∧ n + (x.sz : Int) ≤ 500
def ExprSays (n d : Int) (x : Ex) (bp : Nat) (w : World) (e : Ending) (w' : World) : Prop :=
  ∃ (b : Bool) (m : Int), e = .returned (.bool b) ∧ Cnt w' bp m ∧ w.grownBy w' (some bp) ∧ (b = true → OkOne n d x ∧ m = n + (x.sz : Int)) ∧ (b = false → ¬ OkOne n d x)

/-- what Exprs must do with the arguments -/
def ExprsDo (w : World) (B : Nat) (xs : List Ex) (A : Option Addr) : Prop :=
  ∀ (n d : Int) (bp c : Nat) (W : World), Same B w W → B ≤ bp → bp < W.heap.size → 0 ≤ n → n ≤ 500 → 1 ≤ d → d ≤ 15 → xs.length ≤ c → c ≤ maxLen → Cnt W bp n →
    Calls Try.prog 61 #[.pointer (some ⟨bp, 0, none⟩), .slice A xs.length c, .int .i64 d] W (ExprsSays n d xs bp W)

theorem addB_true {n d : Int} (h : addB n d = true) : n + 1 ≤ 500 ∧ d ≤ 14 := by unfold addB at h; exact of_decide_eq_true h
theorem Ex.ht_pos (x : Ex) : 1 ≤ x.ht := by rw [x.ht_eq]; omega
theorem not_add {n d : Int} {x : Ex} (h : addB n d = false) : ¬ OkOne n d x := by
  intro ⟨_, h1, h2⟩
  have := x.ht_pos
  have := x.sz_pos
  unfold addB at h
  have h3 := of_decide_eq_false h
  omega
theorem not_okB {n d : Int} {x : Ex} (h : okB x = false) : ¬ OkOne n d x := by
  intro ⟨h1, _⟩
  rw [x.ok_eq, h] at h1
  cases h1
theorem ok_step {n d : Int} {x : Ex} (h : okB x = true) : OkOne n d x ↔ OkAll (n + 1) (d + 1) x.args := by
  unfold OkOne OkAll
  rw [x.ok_eq, h, x.ht_eq, x.sz_eq, Bool.true_and]
  constructor
  · intro ⟨a, b, c⟩
    exact ⟨a, by omega, by omega⟩
  · intro ⟨a, b, c⟩
    exact ⟨a, by omega, by omega⟩
theorem says_no {n d m : Int} {x : Ex} {bp : Nat} {w w' : World} (hc : Cnt w' bp m) (hg : w.grownBy w' (some bp)) (h : ¬ OkOne n d x) : ExprSays n d x bp w (.returned (.bool false)) w' :=
  ⟨false, m, rfl, hc, hg, (fun e => by cases e), fun _ => h⟩
theorem says_args {n d : Int} {x : Ex} {bp : Nat} {w w1 w' : World} {e : Ending} (hx : okB x = true) (hg : w.grownBy w1 (some bp)) (h : ExprsSays (n + 1) (d + 1) x.args bp w1 e w') : ExprSays n d x bp w e w' := by
  obtain ⟨b, m, he, hc, hg2, ht, hf⟩ := h
  refine ⟨b, m, he, hc, grown_trans hg hg2, fun hb => ?_, fun hb => ?_⟩
  · obtain ⟨h1, h2⟩ := ht hb
    refine ⟨(ok_step hx).2 h1, ?_⟩
    rw [h2, x.sz_eq]; omega
  · intro h1
    exact hf hb ((ok_step hx).1 h1)

/-- the facts of the box that bears the parameter -/
structure Boxed6 (w : World) (b : Nat) (op kind nn : Int) (s f : ByteArray) (A : Option Addr) (l c : Nat) : Prop where
  k0 : w.cell? ⟨b, 0, none⟩ = some (.int .i64 op)
  k1 : w.cell? ⟨b, 1, none⟩ = some (.int .i64 kind)
  k2 : w.cell? ⟨b, 2, none⟩ = some (.int .i64 nn)
  k3 : w.cell? ⟨b, 3, none⟩ = some (.string s)
  k4 : w.cell? ⟨b, 4, none⟩ = some (.string f)
  k5 : w.cell? ⟨b, 5, none⟩ = some (.slice A l c)
theorem boxed_new (w : World) (op kind nn : Int) (s f : ByteArray) (A : Option Addr) (l c : Nat) :
    Boxed6 (w.alloc (.cells #[.int .i64 op, .int .i64 kind, .int .i64 nn, .string s, .string f, .slice A l c] 49)) w.heap.size op kind nn s f A l c :=
  ⟨by simp, by simp, by simp, by simp, by simp, by simp⟩
theorem Boxed6.to {w w' : World} {b : Nat} {op kind nn : Int} {s f : ByteArray} {A : Option Addr} {l c : Nat} (h : Boxed6 w b op kind nn s f A l c) (hc : ∀ q : Addr, q.block = b → w'.cell? q = w.cell? q) : Boxed6 w' b op kind nn s f A l c :=
  ⟨(hc ⟨b, 0, none⟩ rfl).trans h.k0, (hc ⟨b, 1, none⟩ rfl).trans h.k1, (hc ⟨b, 2, none⟩ rfl).trans h.k2, (hc ⟨b, 3, none⟩ rfl).trans h.k3, (hc ⟨b, 4, none⟩ rfl).trans h.k4, (hc ⟨b, 5, none⟩ rfl).trans h.k5⟩

/-- what is known when Add has been called -/
structure Added (w : World) (B : Nat) (op kind nn : Int) (s f : ByteArray) (args : List Ex) (A : Option Addr) (c bp : Nat) (n : Int) (W w1 : World) : Prop where
  box : Boxed6 w1 W.heap.size op kind nn s f A args.length c
  cnt : Cnt w1 bp (n + 1)
  grown : W.grownBy w1 (some bp)
  same : Same B w w1
  lt : bp < w1.heap.size
theorem added {w : World} {B : Nat} {op kind nn : Int} {s f : ByteArray} {args : List Ex} {A : Option Addr} {c bp : Nat} {n : Int} {W w1 : World} (hS : Same B w W) (hB : B ≤ bp) (hbp : bp < W.heap.size)
    (hc : Cnt w1 bp (n + 1)) (hg : (W.alloc (.cells #[.int .i64 op, .int .i64 kind, .int .i64 nn, .string s, .string f, .slice A args.length c] 49)).grownBy w1 (some bp)) : Added w B op kind nn s f args A c bp n W w1 := by
  have g1 := grown_trans (grown_alloc W (.cells #[.int .i64 op, .int .i64 kind, .int .i64 nn, .string s, .string f, .slice A args.length c] 49) (some bp)) hg
  refine ⟨(boxed_new W op kind nn s f A args.length c).to (fun q hq => grown_cell hg (by rw [hq]; simp) (by rw [hq]; omega)), hc, g1, hS.trans (grown_same g1 hB hbp), Nat.lt_of_lt_of_le hbp g1.size⟩

theorem Cnt.drewN {w : World} {bp : Nat} {n : Int} (h : Cnt w bp n) (k : Nat) : Cnt (w.drewN k) bp n := ⟨h.n, h.d, h.f0, h.f1⟩
theorem cnt_alloc {W : World} {bp : Nat} {n : Int} (h : Cnt W bp n) (hb : bp < W.heap.size) (o : Obj) : Cnt (W.alloc o) bp n := by
  have e : (W.alloc o).heap[bp]? = W.heap[bp]? := Below.heap_alloc _ _ _ hb
  obtain ⟨dp, hd⟩ := h.d
  exact ⟨(World.cell?_of_block (w := W) (a := ⟨bp, 0, none⟩) e).trans h.n, ⟨dp, (World.cell?_of_block (w := W) (a := ⟨bp, 1, none⟩) e).trans hd⟩, (World.frozen?_of_block (w := W) (a := ⟨bp, 0, none⟩) e).trans h.f0, (World.frozen?_of_block (w := W) (a := ⟨bp, 1, none⟩) e).trans h.f1⟩

set_option maxHeartbeats 8000000 in
theorem expr49_1 (w : World) (B : Nat) (kind nn : Int) (s f : ByteArray) (args : List Ex) (A : Option Addr) (c : Nat) (hs : s.size ≤ maxLen) (hf : f.size ≤ maxLen) (hl : args.length ≤ c) (hcm : c ≤ maxLen) (hd : ExprsDo w B args A)
    (n d : Int) (bp : Nat) (W : World) (hS : Same B w W) (hB : B ≤ bp) (hbp : bp < W.heap.size) (hn0 : 0 ≤ n) (hn1 : n ≤ 500) (hd0 : 1 ≤ d) (hc : Cnt W bp n) :
    Calls Try.prog 49 #[.pointer (some ⟨bp, 0, none⟩), .agg #[.int .i64 1, .int .i64 kind, .int .i64 nn, .string s, .string f, .slice A args.length c], .int .i64 d] W (ExprSays n d ⟨1, kind, nn, s, f, args⟩ bp W) := by
  have HS := hid hs
  have HF := hid hf
  have HD := hid hd
  have hbox := cnt_alloc hc hbp (.cells #[.int .i64 1, .int .i64 kind, .int .i64 nn, .string s, .string f, .slice A args.length c] 49)
  have CA := hid (add57 bp n d (W.alloc (.cells #[.int .i64 1, .int .i64 kind, .int .i64 nn, .string s, .string f, .slice A args.length c] 49)) hn0 (by omega) hbox)
  have CNM := named60
  have C58 := fun W => hid (const58 kind nn W)
  have C59 := fun v lo hi W => hid (within59 v lo hi W)
  replace CNM : ∀ (s : ByteArray) (b : Bool) (w : World), s.size ≤ maxLen → Calls Try.prog 60 #[.string s, .bool b] w fun e w' => e = .returned (.bool (nmB s b)) ∧ w = w' := CNM
  clear hs hf hd hc hbox
  cases hadd : addB n d
  · have HN := hid (not_add (x := ⟨1, kind, nn, s, f, args⟩) hadd)
    go_enter Try.func49, Try.ntmps49
    go_wp2_with fail
    refine CA.out.mono ?_
    rintro e w1 ⟨rfl, hc1, hg1⟩
    have HA := hid (added hS hB hbp hc1 hg1)
    obtain ⟨k0, k1, k2, k3, k4, k5⟩ := HA.out.box
    clear hc1 hg1
    go_wp2_with (first | (go_at_call 58; refine (C58 _).out.mono ?_; rintro e w' ⟨rfl, rfl⟩) | (go_at_call 59; refine (C59 _ _ _ _).out.mono ?_; rintro e w' ⟨rfl, rfl⟩) | (go_at_call 60; refine (CNM _ _ _ (by first | exact HS.out | exact HF.out)).mono ?_; rintro e w' ⟨rfl, rfl⟩))
    go_ret
    exact says_no HA.out.cnt HA.out.grown HN.out
  obtain ⟨ha1, ha2⟩ := addB_true hadd
  cases hk : constB kind nn
  · have HN := hid (not_okB (n := n) (d := d) (x := ⟨1, kind, nn, s, f, args⟩) (by simp [okB, arB, namedOf, fieldOf, hk]))
    go_enter Try.func49, Try.ntmps49
    go_wp2_with fail
    refine CA.out.mono ?_
    rintro e w1 ⟨rfl, hc1, hg1⟩
    have HA := hid (added hS hB hbp hc1 hg1)
    obtain ⟨k0, k1, k2, k3, k4, k5⟩ := HA.out.box
    clear hc1 hg1
    go_wp2_with (first | (go_at_call 58; refine (C58 _).out.mono ?_; rintro e w' ⟨rfl, rfl⟩) | (go_at_call 59; refine (C59 _ _ _ _).out.mono ?_; rintro e w' ⟨rfl, rfl⟩) | (go_at_call 60; refine (CNM _ _ _ (by first | exact HS.out | exact HF.out)).mono ?_; rintro e w' ⟨rfl, rfl⟩))
    go_ret
    exact says_no HA.out.cnt HA.out.grown HN.out
  cases h1 : nmB s false
  · have HN := hid (not_okB (n := n) (d := d) (x := ⟨1, kind, nn, s, f, args⟩) (by simp [okB, arB, namedOf, fieldOf, h1]))
    go_enter Try.func49, Try.ntmps49
    go_wp2_with fail
    refine CA.out.mono ?_
    rintro e w1 ⟨rfl, hc1, hg1⟩
    have HA := hid (added hS hB hbp hc1 hg1)
    obtain ⟨k0, k1, k2, k3, k4, k5⟩ := HA.out.box
    clear hc1 hg1
    go_wp2_with (first | (go_at_call 58; refine (C58 _).out.mono ?_; rintro e w' ⟨rfl, rfl⟩) | (go_at_call 59; refine (C59 _ _ _ _).out.mono ?_; rintro e w' ⟨rfl, rfl⟩) | (go_at_call 60; refine (CNM _ _ _ (by first | exact HS.out | exact HF.out)).mono ?_; rintro e w' ⟨rfl, rfl⟩))
    go_ret
    exact says_no HA.out.cnt HA.out.grown HN.out
  cases h2 : nmB f false
  · have HN := hid (not_okB (n := n) (d := d) (x := ⟨1, kind, nn, s, f, args⟩) (by simp [okB, arB, namedOf, fieldOf, h2]))
    go_enter Try.func49, Try.ntmps49
    go_wp2_with fail
    refine CA.out.mono ?_
    rintro e w1 ⟨rfl, hc1, hg1⟩
    have HA := hid (added hS hB hbp hc1 hg1)
    obtain ⟨k0, k1, k2, k3, k4, k5⟩ := HA.out.box
    clear hc1 hg1
    go_wp2_with (first | (go_at_call 58; refine (C58 _).out.mono ?_; rintro e w' ⟨rfl, rfl⟩) | (go_at_call 59; refine (C59 _ _ _ _).out.mono ?_; rintro e w' ⟨rfl, rfl⟩) | (go_at_call 60; refine (CNM _ _ _ (by first | exact HS.out | exact HF.out)).mono ?_; rintro e w' ⟨rfl, rfl⟩))
    go_ret
    exact says_no HA.out.cnt HA.out.grown HN.out
  by_cases hlen : args.length = 0
  rotate_left
  · have hlb : ((args.length : Int) == 0) = false := beq_eq_false_iff_ne.2 (by omega)
    have HN := hid (not_okB (n := n) (d := d) (x := ⟨1, kind, nn, s, f, args⟩) (by simp [okB, arB, namedOf, fieldOf, hlen]))
    clear hlen
    go_enter Try.func49, Try.ntmps49
    go_wp2_with fail
    refine CA.out.mono ?_
    rintro e w1 ⟨rfl, hc1, hg1⟩
    have HA := hid (added hS hB hbp hc1 hg1)
    obtain ⟨k0, k1, k2, k3, k4, k5⟩ := HA.out.box
    clear hc1 hg1
    go_wp2_with (first | (go_at_call 58; refine (C58 _).out.mono ?_; rintro e w' ⟨rfl, rfl⟩) | (go_at_call 59; refine (C59 _ _ _ _).out.mono ?_; rintro e w' ⟨rfl, rfl⟩) | (go_at_call 60; refine (CNM _ _ _ (by first | exact HS.out | exact HF.out)).mono ?_; rintro e w' ⟨rfl, rfl⟩))
    go_ret
    exact says_no HA.out.cnt HA.out.grown HN.out
  have hlb : ((args.length : Int) == 0) = true := beq_iff_eq.2 (by omega)
  have HO : Hid (okB ⟨1, kind, nn, s, f, args⟩ = true) := hid (by simp [okB, arB, namedOf, fieldOf, hk, h1, h2, hlen])
  clear hlen
  go_enter Try.func49, Try.ntmps49
  go_wp2_with fail
  refine CA.out.mono ?_
  rintro e w1 ⟨rfl, hc1, hg1⟩
  have HA := hid (added hS hB hbp hc1 hg1)
  obtain ⟨k0, k1, k2, k3, k4, k5⟩ := HA.out.box
  clear hc1 hg1
  go_wp2_with (first | (go_at_call 58; refine (C58 _).out.mono ?_; rintro e w' ⟨rfl, rfl⟩) | (go_at_call 59; refine (C59 _ _ _ _).out.mono ?_; rintro e w' ⟨rfl, rfl⟩) | (go_at_call 60; refine (CNM _ _ _ (by first | exact HS.out | exact HF.out)).mono ?_; rintro e w' ⟨rfl, rfl⟩))
  refine (HD.out (n + 1) (d + 1) bp c _ HA.out.same hB HA.out.lt (by omega) ha1 (by omega) (by omega) hl hcm HA.out.cnt).mono ?_
  rintro e w2 hE
  obtain ⟨b, m, rfl, hrest⟩ := hE
  replace hrest := hid hrest
  go_wp2
  go_ret
  exact says_args HO.out HA.out.grown ⟨b, m, rfl, hrest.out⟩

set_option maxHeartbeats 8000000 in
theorem expr49_2 (w : World) (B : Nat) (kind nn : Int) (s f : ByteArray) (args : List Ex) (A : Option Addr) (c : Nat) (hs : s.size ≤ maxLen) (hf : f.size ≤ maxLen) (hl : args.length ≤ c) (hcm : c ≤ maxLen) (hd : ExprsDo w B args A)
    (n d : Int) (bp : Nat) (W : World) (hS : Same B w W) (hB : B ≤ bp) (hbp : bp < W.heap.size) (hn0 : 0 ≤ n) (hn1 : n ≤ 500) (hd0 : 1 ≤ d) (hc : Cnt W bp n) :
    Calls Try.prog 49 #[.pointer (some ⟨bp, 0, none⟩), .agg #[.int .i64 2, .int .i64 kind, .int .i64 nn, .string s, .string f, .slice A args.length c], .int .i64 d] W (ExprSays n d ⟨2, kind, nn, s, f, args⟩ bp W) := by
  have HS := hid hs
  have HF := hid hf
  have HD := hid hd
  have hbox := cnt_alloc hc hbp (.cells #[.int .i64 2, .int .i64 kind, .int .i64 nn, .string s, .string f, .slice A args.length c] 49)
  have CA := hid (add57 bp n d (W.alloc (.cells #[.int .i64 2, .int .i64 kind, .int .i64 nn, .string s, .string f, .slice A args.length c] 49)) hn0 (by omega) hbox)
  have CNM := named60
  have C58 := fun W => hid (const58 kind nn W)
  have C59 := fun v lo hi W => hid (within59 v lo hi W)
  replace CNM : ∀ (s : ByteArray) (b : Bool) (w : World), s.size ≤ maxLen → Calls Try.prog 60 #[.string s, .bool b] w fun e w' => e = .returned (.bool (nmB s b)) ∧ w = w' := CNM
  clear hs hf hd hc hbox
  cases hadd : addB n d
  · have HN := hid (not_add (x := ⟨2, kind, nn, s, f, args⟩) hadd)
    go_enter Try.func49, Try.ntmps49
    go_wp2_with fail
    refine CA.out.mono ?_
    rintro e w1 ⟨rfl, hc1, hg1⟩
    have HA := hid (added hS hB hbp hc1 hg1)
    obtain ⟨k0, k1, k2, k3, k4, k5⟩ := HA.out.box
    clear hc1 hg1
    go_wp2_with (first | (go_at_call 58; refine (C58 _).out.mono ?_; rintro e w' ⟨rfl, rfl⟩) | (go_at_call 59; refine (C59 _ _ _ _).out.mono ?_; rintro e w' ⟨rfl, rfl⟩) | (go_at_call 60; refine (CNM _ _ _ (by first | exact HS.out | exact HF.out)).mono ?_; rintro e w' ⟨rfl, rfl⟩))
    go_ret
    exact says_no HA.out.cnt HA.out.grown HN.out
  obtain ⟨ha1, ha2⟩ := addB_true hadd
  by_cases hk : kind = 0
  rotate_left
  · have hkb : (kind != 0) = true := by simpa using hk
    have HN := hid (not_okB (n := n) (d := d) (x := ⟨2, kind, nn, s, f, args⟩) (by simp [okB, arB, namedOf, fieldOf, hk]))
    clear hk
    go_enter Try.func49, Try.ntmps49
    go_wp2_with fail
    refine CA.out.mono ?_
    rintro e w1 ⟨rfl, hc1, hg1⟩
    have HA := hid (added hS hB hbp hc1 hg1)
    obtain ⟨k0, k1, k2, k3, k4, k5⟩ := HA.out.box
    clear hc1 hg1
    go_wp2_with (first | (go_at_call 58; refine (C58 _).out.mono ?_; rintro e w' ⟨rfl, rfl⟩) | (go_at_call 59; refine (C59 _ _ _ _).out.mono ?_; rintro e w' ⟨rfl, rfl⟩) | (go_at_call 60; refine (CNM _ _ _ (by first | exact HS.out | exact HF.out)).mono ?_; rintro e w' ⟨rfl, rfl⟩))
    go_ret
    exact says_no HA.out.cnt HA.out.grown HN.out
  subst hk
  by_cases hn : nn = 0
  rotate_left
  · have hnb : (nn != 0) = true := by simpa using hn
    have HN := hid (not_okB (n := n) (d := d) (x := ⟨2, 0, nn, s, f, args⟩) (by simp [okB, arB, namedOf, fieldOf, hn]))
    clear hn
    go_enter Try.func49, Try.ntmps49
    go_wp2_with fail
    refine CA.out.mono ?_
    rintro e w1 ⟨rfl, hc1, hg1⟩
    have HA := hid (added hS hB hbp hc1 hg1)
    obtain ⟨k0, k1, k2, k3, k4, k5⟩ := HA.out.box
    clear hc1 hg1
    go_wp2_with (first | (go_at_call 58; refine (C58 _).out.mono ?_; rintro e w' ⟨rfl, rfl⟩) | (go_at_call 59; refine (C59 _ _ _ _).out.mono ?_; rintro e w' ⟨rfl, rfl⟩) | (go_at_call 60; refine (CNM _ _ _ (by first | exact HS.out | exact HF.out)).mono ?_; rintro e w' ⟨rfl, rfl⟩))
    go_ret
    exact says_no HA.out.cnt HA.out.grown HN.out
  subst hn
  cases h1 : nmB s true
  · have HN := hid (not_okB (n := n) (d := d) (x := ⟨2, 0, 0, s, f, args⟩) (by simp [okB, arB, namedOf, fieldOf, h1]))
    go_enter Try.func49, Try.ntmps49
    go_wp2_with fail
    refine CA.out.mono ?_
    rintro e w1 ⟨rfl, hc1, hg1⟩
    have HA := hid (added hS hB hbp hc1 hg1)
    obtain ⟨k0, k1, k2, k3, k4, k5⟩ := HA.out.box
    clear hc1 hg1
    go_wp2_with (first | (go_at_call 58; refine (C58 _).out.mono ?_; rintro e w' ⟨rfl, rfl⟩) | (go_at_call 59; refine (C59 _ _ _ _).out.mono ?_; rintro e w' ⟨rfl, rfl⟩) | (go_at_call 60; refine (CNM _ _ _ (by first | exact HS.out | exact HF.out)).mono ?_; rintro e w' ⟨rfl, rfl⟩))
    go_ret
    exact says_no HA.out.cnt HA.out.grown HN.out
  cases h2 : nmB f false
  · have HN := hid (not_okB (n := n) (d := d) (x := ⟨2, 0, 0, s, f, args⟩) (by simp [okB, arB, namedOf, fieldOf, h2]))
    go_enter Try.func49, Try.ntmps49
    go_wp2_with fail
    refine CA.out.mono ?_
    rintro e w1 ⟨rfl, hc1, hg1⟩
    have HA := hid (added hS hB hbp hc1 hg1)
    obtain ⟨k0, k1, k2, k3, k4, k5⟩ := HA.out.box
    clear hc1 hg1
    go_wp2_with (first | (go_at_call 58; refine (C58 _).out.mono ?_; rintro e w' ⟨rfl, rfl⟩) | (go_at_call 59; refine (C59 _ _ _ _).out.mono ?_; rintro e w' ⟨rfl, rfl⟩) | (go_at_call 60; refine (CNM _ _ _ (by first | exact HS.out | exact HF.out)).mono ?_; rintro e w' ⟨rfl, rfl⟩))
    go_ret
    exact says_no HA.out.cnt HA.out.grown HN.out
  by_cases hlen : args.length = 0
  rotate_left
  · have hlb : ((args.length : Int) == 0) = false := beq_eq_false_iff_ne.2 (by omega)
    have HN := hid (not_okB (n := n) (d := d) (x := ⟨2, 0, 0, s, f, args⟩) (by simp [okB, arB, namedOf, fieldOf, hlen]))
    clear hlen
    go_enter Try.func49, Try.ntmps49
    go_wp2_with fail
    refine CA.out.mono ?_
    rintro e w1 ⟨rfl, hc1, hg1⟩
    have HA := hid (added hS hB hbp hc1 hg1)
    obtain ⟨k0, k1, k2, k3, k4, k5⟩ := HA.out.box
    clear hc1 hg1
    go_wp2_with (first | (go_at_call 58; refine (C58 _).out.mono ?_; rintro e w' ⟨rfl, rfl⟩) | (go_at_call 59; refine (C59 _ _ _ _).out.mono ?_; rintro e w' ⟨rfl, rfl⟩) | (go_at_call 60; refine (CNM _ _ _ (by first | exact HS.out | exact HF.out)).mono ?_; rintro e w' ⟨rfl, rfl⟩))
    go_ret
    exact says_no HA.out.cnt HA.out.grown HN.out
  have hlb : ((args.length : Int) == 0) = true := beq_iff_eq.2 (by omega)
  have HO : Hid (okB ⟨2, 0, 0, s, f, args⟩ = true) := hid (by simp [okB, arB, namedOf, fieldOf, h1, h2, hlen])
  clear hlen
  go_enter Try.func49, Try.ntmps49
  go_wp2_with fail
  refine CA.out.mono ?_
  rintro e w1 ⟨rfl, hc1, hg1⟩
  have HA := hid (added hS hB hbp hc1 hg1)
  obtain ⟨k0, k1, k2, k3, k4, k5⟩ := HA.out.box
  clear hc1 hg1
  go_wp2_with (first | (go_at_call 58; refine (C58 _).out.mono ?_; rintro e w' ⟨rfl, rfl⟩) | (go_at_call 59; refine (C59 _ _ _ _).out.mono ?_; rintro e w' ⟨rfl, rfl⟩) | (go_at_call 60; refine (CNM _ _ _ (by first | exact HS.out | exact HF.out)).mono ?_; rintro e w' ⟨rfl, rfl⟩))
  refine (HD.out (n + 1) (d + 1) bp c _ HA.out.same hB HA.out.lt (by omega) ha1 (by omega) (by omega) hl hcm HA.out.cnt).mono ?_
  rintro e w2 hE
  obtain ⟨b, m, rfl, hrest⟩ := hE
  replace hrest := hid hrest
  go_wp2
  go_ret
  exact says_args HO.out HA.out.grown ⟨b, m, rfl, hrest.out⟩

set_option maxHeartbeats 8000000 in
theorem expr49_3 (w : World) (B : Nat) (kind nn : Int) (s f : ByteArray) (args : List Ex) (A : Option Addr) (c : Nat) (hs : s.size ≤ maxLen) (hf : f.size ≤ maxLen) (hl : args.length ≤ c) (hcm : c ≤ maxLen) (hd : ExprsDo w B args A)
    (n d : Int) (bp : Nat) (W : World) (hS : Same B w W) (hB : B ≤ bp) (hbp : bp < W.heap.size) (hn0 : 0 ≤ n) (hn1 : n ≤ 500) (hd0 : 1 ≤ d) (hc : Cnt W bp n) :
    Calls Try.prog 49 #[.pointer (some ⟨bp, 0, none⟩), .agg #[.int .i64 3, .int .i64 kind, .int .i64 nn, .string s, .string f, .slice A args.length c], .int .i64 d] W (ExprSays n d ⟨3, kind, nn, s, f, args⟩ bp W) := by
  have HS := hid hs
  have HF := hid hf
  have HD := hid hd
  have hbox := cnt_alloc hc hbp (.cells #[.int .i64 3, .int .i64 kind, .int .i64 nn, .string s, .string f, .slice A args.length c] 49)
  have CA := hid (add57 bp n d (W.alloc (.cells #[.int .i64 3, .int .i64 kind, .int .i64 nn, .string s, .string f, .slice A args.length c] 49)) hn0 (by omega) hbox)
  have CNM := named60
  have C58 := fun W => hid (const58 kind nn W)
  have C59 := fun v lo hi W => hid (within59 v lo hi W)
  replace CNM : ∀ (s : ByteArray) (b : Bool) (w : World), s.size ≤ maxLen → Calls Try.prog 60 #[.string s, .bool b] w fun e w' => e = .returned (.bool (nmB s b)) ∧ w = w' := CNM
  clear hs hf hd hc hbox
  cases hadd : addB n d
  · have HN := hid (not_add (x := ⟨3, kind, nn, s, f, args⟩) hadd)
    go_enter Try.func49, Try.ntmps49
    go_wp2_with fail
    refine CA.out.mono ?_
    rintro e w1 ⟨rfl, hc1, hg1⟩
    have HA := hid (added hS hB hbp hc1 hg1)
    obtain ⟨k0, k1, k2, k3, k4, k5⟩ := HA.out.box
    clear hc1 hg1
    go_wp2_with (first | (go_at_call 58; refine (C58 _).out.mono ?_; rintro e w' ⟨rfl, rfl⟩) | (go_at_call 59; refine (C59 _ _ _ _).out.mono ?_; rintro e w' ⟨rfl, rfl⟩) | (go_at_call 60; refine (CNM _ _ _ (by first | exact HS.out | exact HF.out)).mono ?_; rintro e w' ⟨rfl, rfl⟩))
    go_ret
    exact says_no HA.out.cnt HA.out.grown HN.out
  obtain ⟨ha1, ha2⟩ := addB_true hadd
  by_cases hk : kind = 0
  rotate_left
  · have hkb : (kind != 0) = true := by simpa using hk
    have HN := hid (not_okB (n := n) (d := d) (x := ⟨3, kind, nn, s, f, args⟩) (by simp [okB, arB, namedOf, fieldOf, hk]))
    clear hk
    go_enter Try.func49, Try.ntmps49
    go_wp2_with fail
    refine CA.out.mono ?_
    rintro e w1 ⟨rfl, hc1, hg1⟩
    have HA := hid (added hS hB hbp hc1 hg1)
    obtain ⟨k0, k1, k2, k3, k4, k5⟩ := HA.out.box
    clear hc1 hg1
    go_wp2_with (first | (go_at_call 58; refine (C58 _).out.mono ?_; rintro e w' ⟨rfl, rfl⟩) | (go_at_call 59; refine (C59 _ _ _ _).out.mono ?_; rintro e w' ⟨rfl, rfl⟩) | (go_at_call 60; refine (CNM _ _ _ (by first | exact HS.out | exact HF.out)).mono ?_; rintro e w' ⟨rfl, rfl⟩))
    go_ret
    exact says_no HA.out.cnt HA.out.grown HN.out
  subst hk
  by_cases hn : nn = 0
  rotate_left
  · have hnb : (nn != 0) = true := by simpa using hn
    have HN := hid (not_okB (n := n) (d := d) (x := ⟨3, 0, nn, s, f, args⟩) (by simp [okB, arB, namedOf, fieldOf, hn]))
    clear hn
    go_enter Try.func49, Try.ntmps49
    go_wp2_with fail
    refine CA.out.mono ?_
    rintro e w1 ⟨rfl, hc1, hg1⟩
    have HA := hid (added hS hB hbp hc1 hg1)
    obtain ⟨k0, k1, k2, k3, k4, k5⟩ := HA.out.box
    clear hc1 hg1
    go_wp2_with (first | (go_at_call 58; refine (C58 _).out.mono ?_; rintro e w' ⟨rfl, rfl⟩) | (go_at_call 59; refine (C59 _ _ _ _).out.mono ?_; rintro e w' ⟨rfl, rfl⟩) | (go_at_call 60; refine (CNM _ _ _ (by first | exact HS.out | exact HF.out)).mono ?_; rintro e w' ⟨rfl, rfl⟩))
    go_ret
    exact says_no HA.out.cnt HA.out.grown HN.out
  subst hn
  cases h1 : nmB s true
  · have HN := hid (not_okB (n := n) (d := d) (x := ⟨3, 0, 0, s, f, args⟩) (by simp [okB, arB, namedOf, fieldOf, h1]))
    go_enter Try.func49, Try.ntmps49
    go_wp2_with fail
    refine CA.out.mono ?_
    rintro e w1 ⟨rfl, hc1, hg1⟩
    have HA := hid (added hS hB hbp hc1 hg1)
    obtain ⟨k0, k1, k2, k3, k4, k5⟩ := HA.out.box
    clear hc1 hg1
    go_wp2_with (first | (go_at_call 58; refine (C58 _).out.mono ?_; rintro e w' ⟨rfl, rfl⟩) | (go_at_call 59; refine (C59 _ _ _ _).out.mono ?_; rintro e w' ⟨rfl, rfl⟩) | (go_at_call 60; refine (CNM _ _ _ (by first | exact HS.out | exact HF.out)).mono ?_; rintro e w' ⟨rfl, rfl⟩))
    go_ret
    exact says_no HA.out.cnt HA.out.grown HN.out
  cases h2 : nmB f true
  · have HN := hid (not_okB (n := n) (d := d) (x := ⟨3, 0, 0, s, f, args⟩) (by simp [okB, arB, namedOf, fieldOf, h2]))
    go_enter Try.func49, Try.ntmps49
    go_wp2_with fail
    refine CA.out.mono ?_
    rintro e w1 ⟨rfl, hc1, hg1⟩
    have HA := hid (added hS hB hbp hc1 hg1)
    obtain ⟨k0, k1, k2, k3, k4, k5⟩ := HA.out.box
    clear hc1 hg1
    go_wp2_with (first | (go_at_call 58; refine (C58 _).out.mono ?_; rintro e w' ⟨rfl, rfl⟩) | (go_at_call 59; refine (C59 _ _ _ _).out.mono ?_; rintro e w' ⟨rfl, rfl⟩) | (go_at_call 60; refine (CNM _ _ _ (by first | exact HS.out | exact HF.out)).mono ?_; rintro e w' ⟨rfl, rfl⟩))
    go_ret
    exact says_no HA.out.cnt HA.out.grown HN.out
  by_cases hlen : args.length = 0
  rotate_left
  · have hlb : ((args.length : Int) == 0) = false := beq_eq_false_iff_ne.2 (by omega)
    have HN := hid (not_okB (n := n) (d := d) (x := ⟨3, 0, 0, s, f, args⟩) (by simp [okB, arB, namedOf, fieldOf, hlen]))
    clear hlen
    go_enter Try.func49, Try.ntmps49
    go_wp2_with fail
    refine CA.out.mono ?_
    rintro e w1 ⟨rfl, hc1, hg1⟩
    have HA := hid (added hS hB hbp hc1 hg1)
    obtain ⟨k0, k1, k2, k3, k4, k5⟩ := HA.out.box
    clear hc1 hg1
    go_wp2_with (first | (go_at_call 58; refine (C58 _).out.mono ?_; rintro e w' ⟨rfl, rfl⟩) | (go_at_call 59; refine (C59 _ _ _ _).out.mono ?_; rintro e w' ⟨rfl, rfl⟩) | (go_at_call 60; refine (CNM _ _ _ (by first | exact HS.out | exact HF.out)).mono ?_; rintro e w' ⟨rfl, rfl⟩))
    go_ret
    exact says_no HA.out.cnt HA.out.grown HN.out
  have hlb : ((args.length : Int) == 0) = true := beq_iff_eq.2 (by omega)
  have HO : Hid (okB ⟨3, 0, 0, s, f, args⟩ = true) := hid (by simp [okB, arB, namedOf, fieldOf, h1, h2, hlen])
  clear hlen
  go_enter Try.func49, Try.ntmps49
  go_wp2_with fail
  refine CA.out.mono ?_
  rintro e w1 ⟨rfl, hc1, hg1⟩
  have HA := hid (added hS hB hbp hc1 hg1)
  obtain ⟨k0, k1, k2, k3, k4, k5⟩ := HA.out.box
  clear hc1 hg1
  go_wp2_with (first | (go_at_call 58; refine (C58 _).out.mono ?_; rintro e w' ⟨rfl, rfl⟩) | (go_at_call 59; refine (C59 _ _ _ _).out.mono ?_; rintro e w' ⟨rfl, rfl⟩) | (go_at_call 60; refine (CNM _ _ _ (by first | exact HS.out | exact HF.out)).mono ?_; rintro e w' ⟨rfl, rfl⟩))
  refine (HD.out (n + 1) (d + 1) bp c _ HA.out.same hB HA.out.lt (by omega) ha1 (by omega) (by omega) hl hcm HA.out.cnt).mono ?_
  rintro e w2 hE
  obtain ⟨b, m, rfl, hrest⟩ := hE
  replace hrest := hid hrest
  go_wp2
  go_ret
  exact says_args HO.out HA.out.grown ⟨b, m, rfl, hrest.out⟩

set_option maxHeartbeats 8000000 in
theorem expr49_4 (w : World) (B : Nat) (kind nn : Int) (s f : ByteArray) (args : List Ex) (A : Option Addr) (c : Nat) (hs : s.size ≤ maxLen) (hf : f.size ≤ maxLen) (hl : args.length ≤ c) (hcm : c ≤ maxLen) (hd : ExprsDo w B args A)
    (n d : Int) (bp : Nat) (W : World) (hS : Same B w W) (hB : B ≤ bp) (hbp : bp < W.heap.size) (hn0 : 0 ≤ n) (hn1 : n ≤ 500) (hd0 : 1 ≤ d) (hc : Cnt W bp n) :
    Calls Try.prog 49 #[.pointer (some ⟨bp, 0, none⟩), .agg #[.int .i64 4, .int .i64 kind, .int .i64 nn, .string s, .string f, .slice A args.length c], .int .i64 d] W (ExprSays n d ⟨4, kind, nn, s, f, args⟩ bp W) := by
  have HS := hid hs
  have HF := hid hf
  have HD := hid hd
  have hbox := cnt_alloc hc hbp (.cells #[.int .i64 4, .int .i64 kind, .int .i64 nn, .string s, .string f, .slice A args.length c] 49)
  have CA := hid (add57 bp n d (W.alloc (.cells #[.int .i64 4, .int .i64 kind, .int .i64 nn, .string s, .string f, .slice A args.length c] 49)) hn0 (by omega) hbox)
  have CNM := named60
  have C58 := fun W => hid (const58 kind nn W)
  have C59 := fun v lo hi W => hid (within59 v lo hi W)
  replace CNM : ∀ (s : ByteArray) (b : Bool) (w : World), s.size ≤ maxLen → Calls Try.prog 60 #[.string s, .bool b] w fun e w' => e = .returned (.bool (nmB s b)) ∧ w = w' := CNM
  clear hs hf hd hc hbox
  cases hadd : addB n d
  · have HN := hid (not_add (x := ⟨4, kind, nn, s, f, args⟩) hadd)
    go_enter Try.func49, Try.ntmps49
    go_wp2_with fail
    refine CA.out.mono ?_
    rintro e w1 ⟨rfl, hc1, hg1⟩
    have HA := hid (added hS hB hbp hc1 hg1)
    obtain ⟨k0, k1, k2, k3, k4, k5⟩ := HA.out.box
    clear hc1 hg1
    go_wp2_with (first | (go_at_call 58; refine (C58 _).out.mono ?_; rintro e w' ⟨rfl, rfl⟩) | (go_at_call 59; refine (C59 _ _ _ _).out.mono ?_; rintro e w' ⟨rfl, rfl⟩) | (go_at_call 60; refine (CNM _ _ _ (by first | exact HS.out | exact HF.out)).mono ?_; rintro e w' ⟨rfl, rfl⟩))
    go_ret
    exact says_no HA.out.cnt HA.out.grown HN.out
  obtain ⟨ha1, ha2⟩ := addB_true hadd
  by_cases hk : kind = 0
  rotate_left
  · have hkb : (kind != 0) = true := by simpa using hk
    have HN := hid (not_okB (n := n) (d := d) (x := ⟨4, kind, nn, s, f, args⟩) (by simp [okB, arB, namedOf, fieldOf, hk]))
    clear hk
    go_enter Try.func49, Try.ntmps49
    go_wp2_with fail
    refine CA.out.mono ?_
    rintro e w1 ⟨rfl, hc1, hg1⟩
    have HA := hid (added hS hB hbp hc1 hg1)
    obtain ⟨k0, k1, k2, k3, k4, k5⟩ := HA.out.box
    clear hc1 hg1
    go_wp2_with (first | (go_at_call 58; refine (C58 _).out.mono ?_; rintro e w' ⟨rfl, rfl⟩) | (go_at_call 59; refine (C59 _ _ _ _).out.mono ?_; rintro e w' ⟨rfl, rfl⟩) | (go_at_call 60; refine (CNM _ _ _ (by first | exact HS.out | exact HF.out)).mono ?_; rintro e w' ⟨rfl, rfl⟩))
    go_ret
    exact says_no HA.out.cnt HA.out.grown HN.out
  subst hk
  by_cases hn : nn = 0
  rotate_left
  · have hnb : (nn != 0) = true := by simpa using hn
    have HN := hid (not_okB (n := n) (d := d) (x := ⟨4, 0, nn, s, f, args⟩) (by simp [okB, arB, namedOf, fieldOf, hn]))
    clear hn
    go_enter Try.func49, Try.ntmps49
    go_wp2_with fail
    refine CA.out.mono ?_
    rintro e w1 ⟨rfl, hc1, hg1⟩
    have HA := hid (added hS hB hbp hc1 hg1)
    obtain ⟨k0, k1, k2, k3, k4, k5⟩ := HA.out.box
    clear hc1 hg1
    go_wp2_with (first | (go_at_call 58; refine (C58 _).out.mono ?_; rintro e w' ⟨rfl, rfl⟩) | (go_at_call 59; refine (C59 _ _ _ _).out.mono ?_; rintro e w' ⟨rfl, rfl⟩) | (go_at_call 60; refine (CNM _ _ _ (by first | exact HS.out | exact HF.out)).mono ?_; rintro e w' ⟨rfl, rfl⟩))
    go_ret
    exact says_no HA.out.cnt HA.out.grown HN.out
  subst hn
  cases h1 : nmB s true
  · have HN := hid (not_okB (n := n) (d := d) (x := ⟨4, 0, 0, s, f, args⟩) (by simp [okB, arB, namedOf, fieldOf, h1]))
    go_enter Try.func49, Try.ntmps49
    go_wp2_with fail
    refine CA.out.mono ?_
    rintro e w1 ⟨rfl, hc1, hg1⟩
    have HA := hid (added hS hB hbp hc1 hg1)
    obtain ⟨k0, k1, k2, k3, k4, k5⟩ := HA.out.box
    clear hc1 hg1
    go_wp2_with (first | (go_at_call 58; refine (C58 _).out.mono ?_; rintro e w' ⟨rfl, rfl⟩) | (go_at_call 59; refine (C59 _ _ _ _).out.mono ?_; rintro e w' ⟨rfl, rfl⟩) | (go_at_call 60; refine (CNM _ _ _ (by first | exact HS.out | exact HF.out)).mono ?_; rintro e w' ⟨rfl, rfl⟩))
    go_ret
    exact says_no HA.out.cnt HA.out.grown HN.out
  cases h2 : nmB f false
  · have HN := hid (not_okB (n := n) (d := d) (x := ⟨4, 0, 0, s, f, args⟩) (by simp [okB, arB, namedOf, fieldOf, h2]))
    go_enter Try.func49, Try.ntmps49
    go_wp2_with fail
    refine CA.out.mono ?_
    rintro e w1 ⟨rfl, hc1, hg1⟩
    have HA := hid (added hS hB hbp hc1 hg1)
    obtain ⟨k0, k1, k2, k3, k4, k5⟩ := HA.out.box
    clear hc1 hg1
    go_wp2_with (first | (go_at_call 58; refine (C58 _).out.mono ?_; rintro e w' ⟨rfl, rfl⟩) | (go_at_call 59; refine (C59 _ _ _ _).out.mono ?_; rintro e w' ⟨rfl, rfl⟩) | (go_at_call 60; refine (CNM _ _ _ (by first | exact HS.out | exact HF.out)).mono ?_; rintro e w' ⟨rfl, rfl⟩))
    go_ret
    exact says_no HA.out.cnt HA.out.grown HN.out
  by_cases hlen : args.length = 1
  rotate_left
  · have hlb : ((args.length : Int) == 1) = false := beq_eq_false_iff_ne.2 (by omega)
    have HN := hid (not_okB (n := n) (d := d) (x := ⟨4, 0, 0, s, f, args⟩) (by simp [okB, arB, namedOf, fieldOf, hlen]))
    clear hlen
    go_enter Try.func49, Try.ntmps49
    go_wp2_with fail
    refine CA.out.mono ?_
    rintro e w1 ⟨rfl, hc1, hg1⟩
    have HA := hid (added hS hB hbp hc1 hg1)
    obtain ⟨k0, k1, k2, k3, k4, k5⟩ := HA.out.box
    clear hc1 hg1
    go_wp2_with (first | (go_at_call 58; refine (C58 _).out.mono ?_; rintro e w' ⟨rfl, rfl⟩) | (go_at_call 59; refine (C59 _ _ _ _).out.mono ?_; rintro e w' ⟨rfl, rfl⟩) | (go_at_call 60; refine (CNM _ _ _ (by first | exact HS.out | exact HF.out)).mono ?_; rintro e w' ⟨rfl, rfl⟩))
    go_ret
    exact says_no HA.out.cnt HA.out.grown HN.out
  have hlb : ((args.length : Int) == 1) = true := beq_iff_eq.2 (by omega)
  have HO : Hid (okB ⟨4, 0, 0, s, f, args⟩ = true) := hid (by simp [okB, arB, namedOf, fieldOf, h1, h2, hlen])
  clear hlen
  go_enter Try.func49, Try.ntmps49
  go_wp2_with fail
  refine CA.out.mono ?_
  rintro e w1 ⟨rfl, hc1, hg1⟩
  have HA := hid (added hS hB hbp hc1 hg1)
  obtain ⟨k0, k1, k2, k3, k4, k5⟩ := HA.out.box
  clear hc1 hg1
  go_wp2_with (first | (go_at_call 58; refine (C58 _).out.mono ?_; rintro e w' ⟨rfl, rfl⟩) | (go_at_call 59; refine (C59 _ _ _ _).out.mono ?_; rintro e w' ⟨rfl, rfl⟩) | (go_at_call 60; refine (CNM _ _ _ (by first | exact HS.out | exact HF.out)).mono ?_; rintro e w' ⟨rfl, rfl⟩))
  refine (HD.out (n + 1) (d + 1) bp c _ HA.out.same hB HA.out.lt (by omega) ha1 (by omega) (by omega) hl hcm HA.out.cnt).mono ?_
  rintro e w2 hE
  obtain ⟨b, m, rfl, hrest⟩ := hE
  replace hrest := hid hrest
  go_wp2
  go_ret
  exact says_args HO.out HA.out.grown ⟨b, m, rfl, hrest.out⟩

set_option maxHeartbeats 8000000 in
theorem expr49_5 (w : World) (B : Nat) (kind nn : Int) (s f : ByteArray) (args : List Ex) (A : Option Addr) (c : Nat) (hs : s.size ≤ maxLen) (hf : f.size ≤ maxLen) (hl : args.length ≤ c) (hcm : c ≤ maxLen) (hd : ExprsDo w B args A)
    (n d : Int) (bp : Nat) (W : World) (hS : Same B w W) (hB : B ≤ bp) (hbp : bp < W.heap.size) (hn0 : 0 ≤ n) (hn1 : n ≤ 500) (hd0 : 1 ≤ d) (hc : Cnt W bp n) :
    Calls Try.prog 49 #[.pointer (some ⟨bp, 0, none⟩), .agg #[.int .i64 5, .int .i64 kind, .int .i64 nn, .string s, .string f, .slice A args.length c], .int .i64 d] W (ExprSays n d ⟨5, kind, nn, s, f, args⟩ bp W) := by
  have HS := hid hs
  have HF := hid hf
  have HD := hid hd
  have hbox := cnt_alloc hc hbp (.cells #[.int .i64 5, .int .i64 kind, .int .i64 nn, .string s, .string f, .slice A args.length c] 49)
  have CA := hid (add57 bp n d (W.alloc (.cells #[.int .i64 5, .int .i64 kind, .int .i64 nn, .string s, .string f, .slice A args.length c] 49)) hn0 (by omega) hbox)
  have CNM := named60
  have C58 := fun W => hid (const58 kind nn W)
  have C59 := fun v lo hi W => hid (within59 v lo hi W)
  replace CNM : ∀ (s : ByteArray) (b : Bool) (w : World), s.size ≤ maxLen → Calls Try.prog 60 #[.string s, .bool b] w fun e w' => e = .returned (.bool (nmB s b)) ∧ w = w' := CNM
  clear hs hf hd hc hbox
  cases hadd : addB n d
  · have HN := hid (not_add (x := ⟨5, kind, nn, s, f, args⟩) hadd)
    go_enter Try.func49, Try.ntmps49
    go_wp2_with fail
    refine CA.out.mono ?_
    rintro e w1 ⟨rfl, hc1, hg1⟩
    have HA := hid (added hS hB hbp hc1 hg1)
    obtain ⟨k0, k1, k2, k3, k4, k5⟩ := HA.out.box
    clear hc1 hg1
    go_wp2_with (first | (go_at_call 58; refine (C58 _).out.mono ?_; rintro e w' ⟨rfl, rfl⟩) | (go_at_call 59; refine (C59 _ _ _ _).out.mono ?_; rintro e w' ⟨rfl, rfl⟩) | (go_at_call 60; refine (CNM _ _ _ (by first | exact HS.out | exact HF.out)).mono ?_; rintro e w' ⟨rfl, rfl⟩))
    go_ret
    exact says_no HA.out.cnt HA.out.grown HN.out
  obtain ⟨ha1, ha2⟩ := addB_true hadd
  by_cases hk : kind = 0
  rotate_left
  · have hkb : (kind != 0) = true := by simpa using hk
    have HN := hid (not_okB (n := n) (d := d) (x := ⟨5, kind, nn, s, f, args⟩) (by simp [okB, arB, namedOf, fieldOf, hk]))
    clear hk
    go_enter Try.func49, Try.ntmps49
    go_wp2_with fail
    refine CA.out.mono ?_
    rintro e w1 ⟨rfl, hc1, hg1⟩
    have HA := hid (added hS hB hbp hc1 hg1)
    obtain ⟨k0, k1, k2, k3, k4, k5⟩ := HA.out.box
    clear hc1 hg1
    go_wp2_with (first | (go_at_call 58; refine (C58 _).out.mono ?_; rintro e w' ⟨rfl, rfl⟩) | (go_at_call 59; refine (C59 _ _ _ _).out.mono ?_; rintro e w' ⟨rfl, rfl⟩) | (go_at_call 60; refine (CNM _ _ _ (by first | exact HS.out | exact HF.out)).mono ?_; rintro e w' ⟨rfl, rfl⟩))
    go_ret
    exact says_no HA.out.cnt HA.out.grown HN.out
  subst hk
  by_cases hn : nn = 0
  rotate_left
  · have hnb : (nn != 0) = true := by simpa using hn
    have HN := hid (not_okB (n := n) (d := d) (x := ⟨5, 0, nn, s, f, args⟩) (by simp [okB, arB, namedOf, fieldOf, hn]))
    clear hn
    go_enter Try.func49, Try.ntmps49
    go_wp2_with fail
    refine CA.out.mono ?_
    rintro e w1 ⟨rfl, hc1, hg1⟩
    have HA := hid (added hS hB hbp hc1 hg1)
    obtain ⟨k0, k1, k2, k3, k4, k5⟩ := HA.out.box
    clear hc1 hg1
    go_wp2_with (first | (go_at_call 58; refine (C58 _).out.mono ?_; rintro e w' ⟨rfl, rfl⟩) | (go_at_call 59; refine (C59 _ _ _ _).out.mono ?_; rintro e w' ⟨rfl, rfl⟩) | (go_at_call 60; refine (CNM _ _ _ (by first | exact HS.out | exact HF.out)).mono ?_; rintro e w' ⟨rfl, rfl⟩))
    go_ret
    exact says_no HA.out.cnt HA.out.grown HN.out
  subst hn
  cases h1 : nmB s true
  · have HN := hid (not_okB (n := n) (d := d) (x := ⟨5, 0, 0, s, f, args⟩) (by simp [okB, arB, namedOf, fieldOf, h1]))
    go_enter Try.func49, Try.ntmps49
    go_wp2_with fail
    refine CA.out.mono ?_
    rintro e w1 ⟨rfl, hc1, hg1⟩
    have HA := hid (added hS hB hbp hc1 hg1)
    obtain ⟨k0, k1, k2, k3, k4, k5⟩ := HA.out.box
    clear hc1 hg1
    go_wp2_with (first | (go_at_call 58; refine (C58 _).out.mono ?_; rintro e w' ⟨rfl, rfl⟩) | (go_at_call 59; refine (C59 _ _ _ _).out.mono ?_; rintro e w' ⟨rfl, rfl⟩) | (go_at_call 60; refine (CNM _ _ _ (by first | exact HS.out | exact HF.out)).mono ?_; rintro e w' ⟨rfl, rfl⟩))
    go_quiet (fail)
    go_wp2_with (first | (go_at_call 58; refine (C58 _).out.mono ?_; rintro e w' ⟨rfl, rfl⟩) | (go_at_call 59; refine (C59 _ _ _ _).out.mono ?_; rintro e w' ⟨rfl, rfl⟩) | (go_at_call 60; refine (CNM _ _ _ (by first | exact HS.out | exact HF.out)).mono ?_; rintro e w' ⟨rfl, rfl⟩))
    go_ret
    exact says_no (HA.out.cnt.drewN nq) (show W.grownBy (w1.drewN nq) (some bp) from grown_trans HA.out.grown (grown_below (below_drewN' _ _ _) (Nat.le_refl _))) HN.out
  cases h2 : nmB f false
  · have HN := hid (not_okB (n := n) (d := d) (x := ⟨5, 0, 0, s, f, args⟩) (by simp [okB, arB, namedOf, fieldOf, h2]))
    go_enter Try.func49, Try.ntmps49
    go_wp2_with fail
    refine CA.out.mono ?_
    rintro e w1 ⟨rfl, hc1, hg1⟩
    have HA := hid (added hS hB hbp hc1 hg1)
    obtain ⟨k0, k1, k2, k3, k4, k5⟩ := HA.out.box
    clear hc1 hg1
    go_wp2_with (first | (go_at_call 58; refine (C58 _).out.mono ?_; rintro e w' ⟨rfl, rfl⟩) | (go_at_call 59; refine (C59 _ _ _ _).out.mono ?_; rintro e w' ⟨rfl, rfl⟩) | (go_at_call 60; refine (CNM _ _ _ (by first | exact HS.out | exact HF.out)).mono ?_; rintro e w' ⟨rfl, rfl⟩))
    go_quiet (fail)
    go_wp2_with (first | (go_at_call 58; refine (C58 _).out.mono ?_; rintro e w' ⟨rfl, rfl⟩) | (go_at_call 59; refine (C59 _ _ _ _).out.mono ?_; rintro e w' ⟨rfl, rfl⟩) | (go_at_call 60; refine (CNM _ _ _ (by first | exact HS.out | exact HF.out)).mono ?_; rintro e w' ⟨rfl, rfl⟩))
    go_ret
    exact says_no (HA.out.cnt.drewN nq) (show W.grownBy (w1.drewN nq) (some bp) from grown_trans HA.out.grown (grown_below (below_drewN' _ _ _) (Nat.le_refl _))) HN.out
  have HO : Hid (okB ⟨5, 0, 0, s, f, args⟩ = true) := hid (by simp [okB, arB, namedOf, fieldOf, h1, h2])
  go_enter Try.func49, Try.ntmps49
  go_wp2_with fail
  refine CA.out.mono ?_
  rintro e w1 ⟨rfl, hc1, hg1⟩
  have HA := hid (added hS hB hbp hc1 hg1)
  obtain ⟨k0, k1, k2, k3, k4, k5⟩ := HA.out.box
  clear hc1 hg1
  go_wp2_with (first | (go_at_call 58; refine (C58 _).out.mono ?_; rintro e w' ⟨rfl, rfl⟩) | (go_at_call 59; refine (C59 _ _ _ _).out.mono ?_; rintro e w' ⟨rfl, rfl⟩) | (go_at_call 60; refine (CNM _ _ _ (by first | exact HS.out | exact HF.out)).mono ?_; rintro e w' ⟨rfl, rfl⟩))
  go_quiet (fail)
  go_wp2_with (first | (go_at_call 58; refine (C58 _).out.mono ?_; rintro e w' ⟨rfl, rfl⟩) | (go_at_call 59; refine (C59 _ _ _ _).out.mono ?_; rintro e w' ⟨rfl, rfl⟩) | (go_at_call 60; refine (CNM _ _ _ (by first | exact HS.out | exact HF.out)).mono ?_; rintro e w' ⟨rfl, rfl⟩))
  refine (HD.out (n + 1) (d + 1) bp c (w1.drewN nq) HA.out.same hB HA.out.lt (by omega) ha1 (by omega) (by omega) hl hcm (HA.out.cnt.drewN nq)).mono ?_
  rintro e w2 hE
  obtain ⟨b, m, rfl, hrest⟩ := hE
  replace hrest := hid hrest
  go_wp2
  go_ret
  exact says_args (w1 := w1.drewN nq) HO.out (grown_trans HA.out.grown (grown_below (below_drewN' _ _ _) (Nat.le_refl _))) ⟨b, m, rfl, hrest.out⟩

set_option maxHeartbeats 8000000 in
theorem expr49_6 (w : World) (B : Nat) (kind nn : Int) (s f : ByteArray) (args : List Ex) (A : Option Addr) (c : Nat) (hs : s.size ≤ maxLen) (hf : f.size ≤ maxLen) (hl : args.length ≤ c) (hcm : c ≤ maxLen) (hd : ExprsDo w B args A)
    (n d : Int) (bp : Nat) (W : World) (hS : Same B w W) (hB : B ≤ bp) (hbp : bp < W.heap.size) (hn0 : 0 ≤ n) (hn1 : n ≤ 500) (hd0 : 1 ≤ d) (hc : Cnt W bp n) :
    Calls Try.prog 49 #[.pointer (some ⟨bp, 0, none⟩), .agg #[.int .i64 6, .int .i64 kind, .int .i64 nn, .string s, .string f, .slice A args.length c], .int .i64 d] W (ExprSays n d ⟨6, kind, nn, s, f, args⟩ bp W) := by
  have HS := hid hs
  have HF := hid hf
  have HD := hid hd
  have hbox := cnt_alloc hc hbp (.cells #[.int .i64 6, .int .i64 kind, .int .i64 nn, .string s, .string f, .slice A args.length c] 49)
  have CA := hid (add57 bp n d (W.alloc (.cells #[.int .i64 6, .int .i64 kind, .int .i64 nn, .string s, .string f, .slice A args.length c] 49)) hn0 (by omega) hbox)
  have CNM := named60
  have C58 := fun W => hid (const58 kind nn W)
  have C59 := fun v lo hi W => hid (within59 v lo hi W)
  replace CNM : ∀ (s : ByteArray) (b : Bool) (w : World), s.size ≤ maxLen → Calls Try.prog 60 #[.string s, .bool b] w fun e w' => e = .returned (.bool (nmB s b)) ∧ w = w' := CNM
  clear hs hf hd hc hbox
  cases hadd : addB n d
  · have HN := hid (not_add (x := ⟨6, kind, nn, s, f, args⟩) hadd)
    go_enter Try.func49, Try.ntmps49
    go_wp2_with fail
    refine CA.out.mono ?_
    rintro e w1 ⟨rfl, hc1, hg1⟩
    have HA := hid (added hS hB hbp hc1 hg1)
    obtain ⟨k0, k1, k2, k3, k4, k5⟩ := HA.out.box
    clear hc1 hg1
    go_wp2_with (first | (go_at_call 58; refine (C58 _).out.mono ?_; rintro e w' ⟨rfl, rfl⟩) | (go_at_call 59; refine (C59 _ _ _ _).out.mono ?_; rintro e w' ⟨rfl, rfl⟩) | (go_at_call 60; refine (CNM _ _ _ (by first | exact HS.out | exact HF.out)).mono ?_; rintro e w' ⟨rfl, rfl⟩))
    go_ret
    exact says_no HA.out.cnt HA.out.grown HN.out
  obtain ⟨ha1, ha2⟩ := addB_true hadd
  by_cases hk : kind = 0
  rotate_left
  · have hkb : (kind != 0) = true := by simpa using hk
    have HN := hid (not_okB (n := n) (d := d) (x := ⟨6, kind, nn, s, f, args⟩) (by simp [okB, arB, namedOf, fieldOf, hk]))
    clear hk
    go_enter Try.func49, Try.ntmps49
    go_wp2_with fail
    refine CA.out.mono ?_
    rintro e w1 ⟨rfl, hc1, hg1⟩
    have HA := hid (added hS hB hbp hc1 hg1)
    obtain ⟨k0, k1, k2, k3, k4, k5⟩ := HA.out.box
    clear hc1 hg1
    go_wp2_with (first | (go_at_call 58; refine (C58 _).out.mono ?_; rintro e w' ⟨rfl, rfl⟩) | (go_at_call 59; refine (C59 _ _ _ _).out.mono ?_; rintro e w' ⟨rfl, rfl⟩) | (go_at_call 60; refine (CNM _ _ _ (by first | exact HS.out | exact HF.out)).mono ?_; rintro e w' ⟨rfl, rfl⟩))
    go_ret
    exact says_no HA.out.cnt HA.out.grown HN.out
  subst hk
  by_cases hn : nn = 0
  rotate_left
  · have hnb : (nn != 0) = true := by simpa using hn
    have HN := hid (not_okB (n := n) (d := d) (x := ⟨6, 0, nn, s, f, args⟩) (by simp [okB, arB, namedOf, fieldOf, hn]))
    clear hn
    go_enter Try.func49, Try.ntmps49
    go_wp2_with fail
    refine CA.out.mono ?_
    rintro e w1 ⟨rfl, hc1, hg1⟩
    have HA := hid (added hS hB hbp hc1 hg1)
    obtain ⟨k0, k1, k2, k3, k4, k5⟩ := HA.out.box
    clear hc1 hg1
    go_wp2_with (first | (go_at_call 58; refine (C58 _).out.mono ?_; rintro e w' ⟨rfl, rfl⟩) | (go_at_call 59; refine (C59 _ _ _ _).out.mono ?_; rintro e w' ⟨rfl, rfl⟩) | (go_at_call 60; refine (CNM _ _ _ (by first | exact HS.out | exact HF.out)).mono ?_; rintro e w' ⟨rfl, rfl⟩))
    go_ret
    exact says_no HA.out.cnt HA.out.grown HN.out
  subst hn
  cases h1 : nmB s false
  · have HN := hid (not_okB (n := n) (d := d) (x := ⟨6, 0, 0, s, f, args⟩) (by simp [okB, arB, namedOf, fieldOf, h1]))
    go_enter Try.func49, Try.ntmps49
    go_wp2_with fail
    refine CA.out.mono ?_
    rintro e w1 ⟨rfl, hc1, hg1⟩
    have HA := hid (added hS hB hbp hc1 hg1)
    obtain ⟨k0, k1, k2, k3, k4, k5⟩ := HA.out.box
    clear hc1 hg1
    go_wp2_with (first | (go_at_call 58; refine (C58 _).out.mono ?_; rintro e w' ⟨rfl, rfl⟩) | (go_at_call 59; refine (C59 _ _ _ _).out.mono ?_; rintro e w' ⟨rfl, rfl⟩) | (go_at_call 60; refine (CNM _ _ _ (by first | exact HS.out | exact HF.out)).mono ?_; rintro e w' ⟨rfl, rfl⟩))
    go_ret
    exact says_no HA.out.cnt HA.out.grown HN.out
  cases h2 : nmB f false
  · have HN := hid (not_okB (n := n) (d := d) (x := ⟨6, 0, 0, s, f, args⟩) (by simp [okB, arB, namedOf, fieldOf, h2]))
    go_enter Try.func49, Try.ntmps49
    go_wp2_with fail
    refine CA.out.mono ?_
    rintro e w1 ⟨rfl, hc1, hg1⟩
    have HA := hid (added hS hB hbp hc1 hg1)
    obtain ⟨k0, k1, k2, k3, k4, k5⟩ := HA.out.box
    clear hc1 hg1
    go_wp2_with (first | (go_at_call 58; refine (C58 _).out.mono ?_; rintro e w' ⟨rfl, rfl⟩) | (go_at_call 59; refine (C59 _ _ _ _).out.mono ?_; rintro e w' ⟨rfl, rfl⟩) | (go_at_call 60; refine (CNM _ _ _ (by first | exact HS.out | exact HF.out)).mono ?_; rintro e w' ⟨rfl, rfl⟩))
    go_ret
    exact says_no HA.out.cnt HA.out.grown HN.out
  by_cases hlen : args.length = 1
  rotate_left
  · have hlb : ((args.length : Int) == 1) = false := beq_eq_false_iff_ne.2 (by omega)
    have HN := hid (not_okB (n := n) (d := d) (x := ⟨6, 0, 0, s, f, args⟩) (by simp [okB, arB, namedOf, fieldOf, hlen]))
    clear hlen
    go_enter Try.func49, Try.ntmps49
    go_wp2_with fail
    refine CA.out.mono ?_
    rintro e w1 ⟨rfl, hc1, hg1⟩
    have HA := hid (added hS hB hbp hc1 hg1)
    obtain ⟨k0, k1, k2, k3, k4, k5⟩ := HA.out.box
    clear hc1 hg1
    go_wp2_with (first | (go_at_call 58; refine (C58 _).out.mono ?_; rintro e w' ⟨rfl, rfl⟩) | (go_at_call 59; refine (C59 _ _ _ _).out.mono ?_; rintro e w' ⟨rfl, rfl⟩) | (go_at_call 60; refine (CNM _ _ _ (by first | exact HS.out | exact HF.out)).mono ?_; rintro e w' ⟨rfl, rfl⟩))
    go_ret
    exact says_no HA.out.cnt HA.out.grown HN.out
  have hlb : ((args.length : Int) == 1) = true := beq_iff_eq.2 (by omega)
  have HO : Hid (okB ⟨6, 0, 0, s, f, args⟩ = true) := hid (by simp [okB, arB, namedOf, fieldOf, h1, h2, hlen])
  clear hlen
  go_enter Try.func49, Try.ntmps49
  go_wp2_with fail
  refine CA.out.mono ?_
  rintro e w1 ⟨rfl, hc1, hg1⟩
  have HA := hid (added hS hB hbp hc1 hg1)
  obtain ⟨k0, k1, k2, k3, k4, k5⟩ := HA.out.box
  clear hc1 hg1
  go_wp2_with (first | (go_at_call 58; refine (C58 _).out.mono ?_; rintro e w' ⟨rfl, rfl⟩) | (go_at_call 59; refine (C59 _ _ _ _).out.mono ?_; rintro e w' ⟨rfl, rfl⟩) | (go_at_call 60; refine (CNM _ _ _ (by first | exact HS.out | exact HF.out)).mono ?_; rintro e w' ⟨rfl, rfl⟩))
  refine (HD.out (n + 1) (d + 1) bp c _ HA.out.same hB HA.out.lt (by omega) ha1 (by omega) (by omega) hl hcm HA.out.cnt).mono ?_
  rintro e w2 hE
  obtain ⟨b, m, rfl, hrest⟩ := hE
  replace hrest := hid hrest
  go_wp2
  go_ret
  exact says_args HO.out HA.out.grown ⟨b, m, rfl, hrest.out⟩

set_option maxHeartbeats 8000000 in
theorem expr49_7 (w : World) (B : Nat) (kind nn : Int) (s f : ByteArray) (args : List Ex) (A : Option Addr) (c : Nat) (hs : s.size ≤ maxLen) (hf : f.size ≤ maxLen) (hl : args.length ≤ c) (hcm : c ≤ maxLen) (hd : ExprsDo w B args A)
    (n d : Int) (bp : Nat) (W : World) (hS : Same B w W) (hB : B ≤ bp) (hbp : bp < W.heap.size) (hn0 : 0 ≤ n) (hn1 : n ≤ 500) (hd0 : 1 ≤ d) (hc : Cnt W bp n) :
    Calls Try.prog 49 #[.pointer (some ⟨bp, 0, none⟩), .agg #[.int .i64 7, .int .i64 kind, .int .i64 nn, .string s, .string f, .slice A args.length c], .int .i64 d] W (ExprSays n d ⟨7, kind, nn, s, f, args⟩ bp W) := by
  have HS := hid hs
  have HF := hid hf
  have HD := hid hd
  have hbox := cnt_alloc hc hbp (.cells #[.int .i64 7, .int .i64 kind, .int .i64 nn, .string s, .string f, .slice A args.length c] 49)
  have CA := hid (add57 bp n d (W.alloc (.cells #[.int .i64 7, .int .i64 kind, .int .i64 nn, .string s, .string f, .slice A args.length c] 49)) hn0 (by omega) hbox)
  have CNM := named60
  have C58 := fun W => hid (const58 kind nn W)
  have C59 := fun v lo hi W => hid (within59 v lo hi W)
  replace CNM : ∀ (s : ByteArray) (b : Bool) (w : World), s.size ≤ maxLen → Calls Try.prog 60 #[.string s, .bool b] w fun e w' => e = .returned (.bool (nmB s b)) ∧ w = w' := CNM
  clear hs hf hd hc hbox
  cases hadd : addB n d
  · have HN := hid (not_add (x := ⟨7, kind, nn, s, f, args⟩) hadd)
    go_enter Try.func49, Try.ntmps49
    go_wp2_with fail
    refine CA.out.mono ?_
    rintro e w1 ⟨rfl, hc1, hg1⟩
    have HA := hid (added hS hB hbp hc1 hg1)
    obtain ⟨k0, k1, k2, k3, k4, k5⟩ := HA.out.box
    clear hc1 hg1
    go_wp2_with (first | (go_at_call 58; refine (C58 _).out.mono ?_; rintro e w' ⟨rfl, rfl⟩) | (go_at_call 59; refine (C59 _ _ _ _).out.mono ?_; rintro e w' ⟨rfl, rfl⟩) | (go_at_call 60; refine (CNM _ _ _ (by first | exact HS.out | exact HF.out)).mono ?_; rintro e w' ⟨rfl, rfl⟩))
    go_ret
    exact says_no HA.out.cnt HA.out.grown HN.out
  obtain ⟨ha1, ha2⟩ := addB_true hadd
  by_cases hk : kind = 0
  rotate_left
  · have hkb : (kind != 0) = true := by simpa using hk
    have HN := hid (not_okB (n := n) (d := d) (x := ⟨7, kind, nn, s, f, args⟩) (by simp [okB, arB, namedOf, fieldOf, hk]))
    clear hk
    go_enter Try.func49, Try.ntmps49
    go_wp2_with fail
    refine CA.out.mono ?_
    rintro e w1 ⟨rfl, hc1, hg1⟩
    have HA := hid (added hS hB hbp hc1 hg1)
    obtain ⟨k0, k1, k2, k3, k4, k5⟩ := HA.out.box
    clear hc1 hg1
    go_wp2_with (first | (go_at_call 58; refine (C58 _).out.mono ?_; rintro e w' ⟨rfl, rfl⟩) | (go_at_call 59; refine (C59 _ _ _ _).out.mono ?_; rintro e w' ⟨rfl, rfl⟩) | (go_at_call 60; refine (CNM _ _ _ (by first | exact HS.out | exact HF.out)).mono ?_; rintro e w' ⟨rfl, rfl⟩))
    go_ret
    exact says_no HA.out.cnt HA.out.grown HN.out
  subst hk
  by_cases hn : nn = 0
  rotate_left
  · have hnb : (nn != 0) = true := by simpa using hn
    have HN := hid (not_okB (n := n) (d := d) (x := ⟨7, 0, nn, s, f, args⟩) (by simp [okB, arB, namedOf, fieldOf, hn]))
    clear hn
    go_enter Try.func49, Try.ntmps49
    go_wp2_with fail
    refine CA.out.mono ?_
    rintro e w1 ⟨rfl, hc1, hg1⟩
    have HA := hid (added hS hB hbp hc1 hg1)
    obtain ⟨k0, k1, k2, k3, k4, k5⟩ := HA.out.box
    clear hc1 hg1
    go_wp2_with (first | (go_at_call 58; refine (C58 _).out.mono ?_; rintro e w' ⟨rfl, rfl⟩) | (go_at_call 59; refine (C59 _ _ _ _).out.mono ?_; rintro e w' ⟨rfl, rfl⟩) | (go_at_call 60; refine (CNM _ _ _ (by first | exact HS.out | exact HF.out)).mono ?_; rintro e w' ⟨rfl, rfl⟩))
    go_ret
    exact says_no HA.out.cnt HA.out.grown HN.out
  subst hn
  cases h1 : nmB s false
  · have HN := hid (not_okB (n := n) (d := d) (x := ⟨7, 0, 0, s, f, args⟩) (by simp [okB, arB, namedOf, fieldOf, h1]))
    go_enter Try.func49, Try.ntmps49
    go_wp2_with fail
    refine CA.out.mono ?_
    rintro e w1 ⟨rfl, hc1, hg1⟩
    have HA := hid (added hS hB hbp hc1 hg1)
    obtain ⟨k0, k1, k2, k3, k4, k5⟩ := HA.out.box
    clear hc1 hg1
    go_wp2_with (first | (go_at_call 58; refine (C58 _).out.mono ?_; rintro e w' ⟨rfl, rfl⟩) | (go_at_call 59; refine (C59 _ _ _ _).out.mono ?_; rintro e w' ⟨rfl, rfl⟩) | (go_at_call 60; refine (CNM _ _ _ (by first | exact HS.out | exact HF.out)).mono ?_; rintro e w' ⟨rfl, rfl⟩))
    go_ret
    exact says_no HA.out.cnt HA.out.grown HN.out
  cases h2 : nmB f false
  · have HN := hid (not_okB (n := n) (d := d) (x := ⟨7, 0, 0, s, f, args⟩) (by simp [okB, arB, namedOf, fieldOf, h2]))
    go_enter Try.func49, Try.ntmps49
    go_wp2_with fail
    refine CA.out.mono ?_
    rintro e w1 ⟨rfl, hc1, hg1⟩
    have HA := hid (added hS hB hbp hc1 hg1)
    obtain ⟨k0, k1, k2, k3, k4, k5⟩ := HA.out.box
    clear hc1 hg1
    go_wp2_with (first | (go_at_call 58; refine (C58 _).out.mono ?_; rintro e w' ⟨rfl, rfl⟩) | (go_at_call 59; refine (C59 _ _ _ _).out.mono ?_; rintro e w' ⟨rfl, rfl⟩) | (go_at_call 60; refine (CNM _ _ _ (by first | exact HS.out | exact HF.out)).mono ?_; rintro e w' ⟨rfl, rfl⟩))
    go_ret
    exact says_no HA.out.cnt HA.out.grown HN.out
  by_cases hlen : args.length = 1
  rotate_left
  · have hlb : ((args.length : Int) == 1) = false := beq_eq_false_iff_ne.2 (by omega)
    have HN := hid (not_okB (n := n) (d := d) (x := ⟨7, 0, 0, s, f, args⟩) (by simp [okB, arB, namedOf, fieldOf, hlen]))
    clear hlen
    go_enter Try.func49, Try.ntmps49
    go_wp2_with fail
    refine CA.out.mono ?_
    rintro e w1 ⟨rfl, hc1, hg1⟩
    have HA := hid (added hS hB hbp hc1 hg1)
    obtain ⟨k0, k1, k2, k3, k4, k5⟩ := HA.out.box
    clear hc1 hg1
    go_wp2_with (first | (go_at_call 58; refine (C58 _).out.mono ?_; rintro e w' ⟨rfl, rfl⟩) | (go_at_call 59; refine (C59 _ _ _ _).out.mono ?_; rintro e w' ⟨rfl, rfl⟩) | (go_at_call 60; refine (CNM _ _ _ (by first | exact HS.out | exact HF.out)).mono ?_; rintro e w' ⟨rfl, rfl⟩))
    go_ret
    exact says_no HA.out.cnt HA.out.grown HN.out
  have hlb : ((args.length : Int) == 1) = true := beq_iff_eq.2 (by omega)
  have HO : Hid (okB ⟨7, 0, 0, s, f, args⟩ = true) := hid (by simp [okB, arB, namedOf, fieldOf, h1, h2, hlen])
  clear hlen
  go_enter Try.func49, Try.ntmps49
  go_wp2_with fail
  refine CA.out.mono ?_
  rintro e w1 ⟨rfl, hc1, hg1⟩
  have HA := hid (added hS hB hbp hc1 hg1)
  obtain ⟨k0, k1, k2, k3, k4, k5⟩ := HA.out.box
  clear hc1 hg1
  go_wp2_with (first | (go_at_call 58; refine (C58 _).out.mono ?_; rintro e w' ⟨rfl, rfl⟩) | (go_at_call 59; refine (C59 _ _ _ _).out.mono ?_; rintro e w' ⟨rfl, rfl⟩) | (go_at_call 60; refine (CNM _ _ _ (by first | exact HS.out | exact HF.out)).mono ?_; rintro e w' ⟨rfl, rfl⟩))
  refine (HD.out (n + 1) (d + 1) bp c _ HA.out.same hB HA.out.lt (by omega) ha1 (by omega) (by omega) hl hcm HA.out.cnt).mono ?_
  rintro e w2 hE
  obtain ⟨b, m, rfl, hrest⟩ := hE
  replace hrest := hid hrest
  go_wp2
  go_ret
  exact says_args HO.out HA.out.grown ⟨b, m, rfl, hrest.out⟩

set_option maxHeartbeats 8000000 in
theorem expr49_b (w : World) (B : Nat) (op kind nn : Int) (s f : ByteArray) (args : List Ex) (A : Option Addr) (c : Nat) (hs : s.size ≤ maxLen) (hf : f.size ≤ maxLen) (hl : args.length ≤ c) (hcm : c ≤ maxLen) (hd : ExprsDo w B args A)
    (n d : Int) (bp : Nat) (W : World) (hS : Same B w W) (hB : B ≤ bp) (hbp : bp < W.heap.size) (hn0 : 0 ≤ n) (hn1 : n ≤ 500) (hd0 : 1 ≤ d) (hc : Cnt W bp n) (ho0 : 8 ≤ op) (ho1 : op ≤ 21) :
    Calls Try.prog 49 #[.pointer (some ⟨bp, 0, none⟩), .agg #[.int .i64 op, .int .i64 kind, .int .i64 nn, .string s, .string f, .slice A args.length c], .int .i64 d] W (ExprSays n d ⟨op, kind, nn, s, f, args⟩ bp W) := by
  have o1 : (op == 1) = false := by simp; omega
  have o2 : (op == 2) = false := by simp; omega
  have o3 : (op == 3) = false := by simp; omega
  have o4 : (op == 4) = false := by simp; omega
  have o5 : (op == 5) = false := by simp; omega
  have o6 : (op == 6) = false := by simp; omega
  have o7 : (op == 7) = false := by simp; omega
  have o0 : (op != 1) = true := by simp; omega
  have oR : inR 8 op 21 = true := by simp [inR]; omega
  have hx1 : namedOf op = false := by simp [namedOf]; omega
  have hx2 : fieldOf op = false := by simp [fieldOf]; omega
  have hx3 : arB op args.length = decide (args.length = 2) := by unfold arB; rw [if_neg (by omega), if_neg (by omega), if_neg (by omega), if_pos ⟨ho0, ho1⟩]
  have HS := hid hs
  have HF := hid hf
  have HD := hid hd
  have hbox := cnt_alloc hc hbp (.cells #[.int .i64 op, .int .i64 kind, .int .i64 nn, .string s, .string f, .slice A args.length c] 49)
  have CA := hid (add57 bp n d (W.alloc (.cells #[.int .i64 op, .int .i64 kind, .int .i64 nn, .string s, .string f, .slice A args.length c] 49)) hn0 (by omega) hbox)
  have CNM := named60
  have C58 := fun W => hid (const58 kind nn W)
  have C59 := fun v lo hi W => hid (within59 v lo hi W)
  replace CNM : ∀ (s : ByteArray) (b : Bool) (w : World), s.size ≤ maxLen → Calls Try.prog 60 #[.string s, .bool b] w fun e w' => e = .returned (.bool (nmB s b)) ∧ w = w' := CNM
  clear hs hf hd hc hbox
  have HX := hid (And.intro o0 (And.intro o1 hx3))
  have HY := hid (And.intro hx1 hx2)
  clear hx1 hx2
  clear hx3 ho0 ho1
  cases hadd : addB n d
  · have HN := hid (not_add (x := ⟨op, kind, nn, s, f, args⟩) hadd)
    go_enter Try.func49, Try.ntmps49
    go_wp2_with fail
    refine CA.out.mono ?_
    rintro e w1 ⟨rfl, hc1, hg1⟩
    have HA := hid (added hS hB hbp hc1 hg1)
    obtain ⟨k0, k1, k2, k3, k4, k5⟩ := HA.out.box
    clear hc1 hg1
    go_wp2_with (first | (go_at_call 58; refine (C58 _).out.mono ?_; rintro e w' ⟨rfl, rfl⟩) | (go_at_call 59; refine (C59 _ _ _ _).out.mono ?_; rintro e w' ⟨rfl, rfl⟩) | (go_at_call 60; refine (CNM _ _ _ (by first | exact HS.out | exact HF.out)).mono ?_; rintro e w' ⟨rfl, rfl⟩))
    go_ret
    exact says_no HA.out.cnt HA.out.grown HN.out
  obtain ⟨ha1, ha2⟩ := addB_true hadd
  by_cases hk : kind = 0
  rotate_left
  · have hkb : (kind != 0) = true := by simpa using hk
    have HN := hid (not_okB (n := n) (d := d) (x := ⟨op, kind, nn, s, f, args⟩) (by unfold okB; simp only [HX.out.1, HX.out.2.1, HX.out.2.2, HY.out.1, HY.out.2]; simp [hk]))
    clear hk
    go_enter Try.func49, Try.ntmps49
    go_wp2_with fail
    refine CA.out.mono ?_
    rintro e w1 ⟨rfl, hc1, hg1⟩
    have HA := hid (added hS hB hbp hc1 hg1)
    obtain ⟨k0, k1, k2, k3, k4, k5⟩ := HA.out.box
    clear hc1 hg1
    go_wp2_with (first | (go_at_call 58; refine (C58 _).out.mono ?_; rintro e w' ⟨rfl, rfl⟩) | (go_at_call 59; refine (C59 _ _ _ _).out.mono ?_; rintro e w' ⟨rfl, rfl⟩) | (go_at_call 60; refine (CNM _ _ _ (by first | exact HS.out | exact HF.out)).mono ?_; rintro e w' ⟨rfl, rfl⟩))
    go_ret
    exact says_no HA.out.cnt HA.out.grown HN.out
  subst hk
  by_cases hn : nn = 0
  rotate_left
  · have hnb : (nn != 0) = true := by simpa using hn
    have HN := hid (not_okB (n := n) (d := d) (x := ⟨op, 0, nn, s, f, args⟩) (by unfold okB; simp only [HX.out.1, HX.out.2.1, HX.out.2.2, HY.out.1, HY.out.2]; simp [hn]))
    clear hn
    go_enter Try.func49, Try.ntmps49
    go_wp2_with fail
    refine CA.out.mono ?_
    rintro e w1 ⟨rfl, hc1, hg1⟩
    have HA := hid (added hS hB hbp hc1 hg1)
    obtain ⟨k0, k1, k2, k3, k4, k5⟩ := HA.out.box
    clear hc1 hg1
    go_wp2_with (first | (go_at_call 58; refine (C58 _).out.mono ?_; rintro e w' ⟨rfl, rfl⟩) | (go_at_call 59; refine (C59 _ _ _ _).out.mono ?_; rintro e w' ⟨rfl, rfl⟩) | (go_at_call 60; refine (CNM _ _ _ (by first | exact HS.out | exact HF.out)).mono ?_; rintro e w' ⟨rfl, rfl⟩))
    go_ret
    exact says_no HA.out.cnt HA.out.grown HN.out
  subst hn
  cases h1 : nmB s false
  · have HN := hid (not_okB (n := n) (d := d) (x := ⟨op, 0, 0, s, f, args⟩) (by unfold okB; simp only [HX.out.1, HX.out.2.1, HX.out.2.2, HY.out.1, HY.out.2]; simp [h1]))
    go_enter Try.func49, Try.ntmps49
    go_wp2_with fail
    refine CA.out.mono ?_
    rintro e w1 ⟨rfl, hc1, hg1⟩
    have HA := hid (added hS hB hbp hc1 hg1)
    obtain ⟨k0, k1, k2, k3, k4, k5⟩ := HA.out.box
    clear hc1 hg1
    go_wp2_with (first | (go_at_call 58; refine (C58 _).out.mono ?_; rintro e w' ⟨rfl, rfl⟩) | (go_at_call 59; refine (C59 _ _ _ _).out.mono ?_; rintro e w' ⟨rfl, rfl⟩) | (go_at_call 60; refine (CNM _ _ _ (by first | exact HS.out | exact HF.out)).mono ?_; rintro e w' ⟨rfl, rfl⟩))
    go_ret
    exact says_no HA.out.cnt HA.out.grown HN.out
  cases h2 : nmB f false
  · have HN := hid (not_okB (n := n) (d := d) (x := ⟨op, 0, 0, s, f, args⟩) (by unfold okB; simp only [HX.out.1, HX.out.2.1, HX.out.2.2, HY.out.1, HY.out.2]; simp [h2]))
    go_enter Try.func49, Try.ntmps49
    go_wp2_with fail
    refine CA.out.mono ?_
    rintro e w1 ⟨rfl, hc1, hg1⟩
    have HA := hid (added hS hB hbp hc1 hg1)
    obtain ⟨k0, k1, k2, k3, k4, k5⟩ := HA.out.box
    clear hc1 hg1
    go_wp2_with (first | (go_at_call 58; refine (C58 _).out.mono ?_; rintro e w' ⟨rfl, rfl⟩) | (go_at_call 59; refine (C59 _ _ _ _).out.mono ?_; rintro e w' ⟨rfl, rfl⟩) | (go_at_call 60; refine (CNM _ _ _ (by first | exact HS.out | exact HF.out)).mono ?_; rintro e w' ⟨rfl, rfl⟩))
    go_ret
    exact says_no HA.out.cnt HA.out.grown HN.out
  by_cases hlen : args.length = 2
  rotate_left
  · have hlb : ((args.length : Int) == 2) = false := beq_eq_false_iff_ne.2 (by omega)
    have HN := hid (not_okB (n := n) (d := d) (x := ⟨op, 0, 0, s, f, args⟩) (by unfold okB; simp only [HX.out.1, HX.out.2.1, HX.out.2.2, HY.out.1, HY.out.2]; simp [hlen]))
    clear hlen
    go_enter Try.func49, Try.ntmps49
    go_wp2_with fail
    refine CA.out.mono ?_
    rintro e w1 ⟨rfl, hc1, hg1⟩
    have HA := hid (added hS hB hbp hc1 hg1)
    obtain ⟨k0, k1, k2, k3, k4, k5⟩ := HA.out.box
    clear hc1 hg1
    go_wp2_with (first | (go_at_call 58; refine (C58 _).out.mono ?_; rintro e w' ⟨rfl, rfl⟩) | (go_at_call 59; refine (C59 _ _ _ _).out.mono ?_; rintro e w' ⟨rfl, rfl⟩) | (go_at_call 60; refine (CNM _ _ _ (by first | exact HS.out | exact HF.out)).mono ?_; rintro e w' ⟨rfl, rfl⟩))
    go_ret
    exact says_no HA.out.cnt HA.out.grown HN.out
  have hlb : ((args.length : Int) == 2) = true := beq_iff_eq.2 (by omega)
  have HO : Hid (okB ⟨op, 0, 0, s, f, args⟩ = true) := hid (by unfold okB; simp only [HX.out.1, HX.out.2.1, HX.out.2.2, HY.out.1, HY.out.2]; simp [h1, h2, hlen])
  clear hlen
  go_enter Try.func49, Try.ntmps49
  go_wp2_with fail
  refine CA.out.mono ?_
  rintro e w1 ⟨rfl, hc1, hg1⟩
  have HA := hid (added hS hB hbp hc1 hg1)
  obtain ⟨k0, k1, k2, k3, k4, k5⟩ := HA.out.box
  clear hc1 hg1
  go_wp2_with (first | (go_at_call 58; refine (C58 _).out.mono ?_; rintro e w' ⟨rfl, rfl⟩) | (go_at_call 59; refine (C59 _ _ _ _).out.mono ?_; rintro e w' ⟨rfl, rfl⟩) | (go_at_call 60; refine (CNM _ _ _ (by first | exact HS.out | exact HF.out)).mono ?_; rintro e w' ⟨rfl, rfl⟩))
  refine (HD.out (n + 1) (d + 1) bp c _ HA.out.same hB HA.out.lt (by omega) ha1 (by omega) (by omega) hl hcm HA.out.cnt).mono ?_
  rintro e w2 hE
  obtain ⟨b, m, rfl, hrest⟩ := hE
  replace hrest := hid hrest
  go_wp2
  go_ret
  exact says_args HO.out HA.out.grown ⟨b, m, rfl, hrest.out⟩

set_option maxHeartbeats 8000000 in
theorem expr49_o (w : World) (B : Nat) (op kind nn : Int) (s f : ByteArray) (args : List Ex) (A : Option Addr) (c : Nat) (hs : s.size ≤ maxLen) (hf : f.size ≤ maxLen) (_hl : args.length ≤ c) (_hcm : c ≤ maxLen) (hd : ExprsDo w B args A)
    (n d : Int) (bp : Nat) (W : World) (hS : Same B w W) (hB : B ≤ bp) (hbp : bp < W.heap.size) (hn0 : 0 ≤ n) (hn1 : n ≤ 500) (_hd0 : 1 ≤ d) (hc : Cnt W bp n) (ho : op < 1 ∨ 21 < op) :
    Calls Try.prog 49 #[.pointer (some ⟨bp, 0, none⟩), .agg #[.int .i64 op, .int .i64 kind, .int .i64 nn, .string s, .string f, .slice A args.length c], .int .i64 d] W (ExprSays n d ⟨op, kind, nn, s, f, args⟩ bp W) := by
  have o1 : (op == 1) = false := by simp; omega
  have o2 : (op == 2) = false := by simp; omega
  have o3 : (op == 3) = false := by simp; omega
  have o4 : (op == 4) = false := by simp; omega
  have o5 : (op == 5) = false := by simp; omega
  have o6 : (op == 6) = false := by simp; omega
  have o7 : (op == 7) = false := by simp; omega
  have o0 : (op != 1) = true := by simp; omega
  have oR : inR 8 op 21 = false := by simp [inR]; omega
  have hx3 : arB op args.length = false := by unfold arB; rw [if_neg (by omega), if_neg (by omega), if_neg (by omega), if_neg (by omega)]
  have HS := hid hs
  have HF := hid hf
  have HD := hid hd
  have hbox := cnt_alloc hc hbp (.cells #[.int .i64 op, .int .i64 kind, .int .i64 nn, .string s, .string f, .slice A args.length c] 49)
  have CA := hid (add57 bp n d (W.alloc (.cells #[.int .i64 op, .int .i64 kind, .int .i64 nn, .string s, .string f, .slice A args.length c] 49)) hn0 (by omega) hbox)
  have CNM := named60
  have C58 := fun W => hid (const58 kind nn W)
  have C59 := fun v lo hi W => hid (within59 v lo hi W)
  replace CNM : ∀ (s : ByteArray) (b : Bool) (w : World), s.size ≤ maxLen → Calls Try.prog 60 #[.string s, .bool b] w fun e w' => e = .returned (.bool (nmB s b)) ∧ w = w' := CNM
  clear hs hf hd hc hbox
  have HX := hid (And.intro o0 (And.intro o1 hx3))
  clear hx3 ho
  cases hadd : addB n d
  · have HN := hid (not_add (x := ⟨op, kind, nn, s, f, args⟩) hadd)
    go_enter Try.func49, Try.ntmps49
    go_wp2_with fail
    refine CA.out.mono ?_
    rintro e w1 ⟨rfl, hc1, hg1⟩
    have HA := hid (added hS hB hbp hc1 hg1)
    obtain ⟨k0, k1, k2, k3, k4, k5⟩ := HA.out.box
    clear hc1 hg1
    go_wp2_with (first | (go_at_call 58; refine (C58 _).out.mono ?_; rintro e w' ⟨rfl, rfl⟩) | (go_at_call 59; refine (C59 _ _ _ _).out.mono ?_; rintro e w' ⟨rfl, rfl⟩) | (go_at_call 60; refine (CNM _ _ _ (by first | exact HS.out | exact HF.out)).mono ?_; rintro e w' ⟨rfl, rfl⟩))
    go_ret
    exact says_no HA.out.cnt HA.out.grown HN.out
  obtain ⟨ha1, ha2⟩ := addB_true hadd
  by_cases hk : kind = 0
  rotate_left
  · have hkb : (kind != 0) = true := by simpa using hk
    have HN := hid (not_okB (n := n) (d := d) (x := ⟨op, kind, nn, s, f, args⟩) (by unfold okB; simp only [HX.out.1, HX.out.2.1, HX.out.2.2]; simp))
    clear hk
    go_enter Try.func49, Try.ntmps49
    go_wp2_with fail
    refine CA.out.mono ?_
    rintro e w1 ⟨rfl, hc1, hg1⟩
    have HA := hid (added hS hB hbp hc1 hg1)
    obtain ⟨k0, k1, k2, k3, k4, k5⟩ := HA.out.box
    clear hc1 hg1
    go_wp2_with (first | (go_at_call 58; refine (C58 _).out.mono ?_; rintro e w' ⟨rfl, rfl⟩) | (go_at_call 59; refine (C59 _ _ _ _).out.mono ?_; rintro e w' ⟨rfl, rfl⟩) | (go_at_call 60; refine (CNM _ _ _ (by first | exact HS.out | exact HF.out)).mono ?_; rintro e w' ⟨rfl, rfl⟩))
    go_ret
    exact says_no HA.out.cnt HA.out.grown HN.out
  subst hk
  by_cases hn : nn = 0
  rotate_left
  · have hnb : (nn != 0) = true := by simpa using hn
    have HN := hid (not_okB (n := n) (d := d) (x := ⟨op, 0, nn, s, f, args⟩) (by unfold okB; simp only [HX.out.1, HX.out.2.1, HX.out.2.2]; simp))
    clear hn
    go_enter Try.func49, Try.ntmps49
    go_wp2_with fail
    refine CA.out.mono ?_
    rintro e w1 ⟨rfl, hc1, hg1⟩
    have HA := hid (added hS hB hbp hc1 hg1)
    obtain ⟨k0, k1, k2, k3, k4, k5⟩ := HA.out.box
    clear hc1 hg1
    go_wp2_with (first | (go_at_call 58; refine (C58 _).out.mono ?_; rintro e w' ⟨rfl, rfl⟩) | (go_at_call 59; refine (C59 _ _ _ _).out.mono ?_; rintro e w' ⟨rfl, rfl⟩) | (go_at_call 60; refine (CNM _ _ _ (by first | exact HS.out | exact HF.out)).mono ?_; rintro e w' ⟨rfl, rfl⟩))
    go_ret
    exact says_no HA.out.cnt HA.out.grown HN.out
  subst hn
  have HN := hid (not_okB (n := n) (d := d) (x := ⟨op, 0, 0, s, f, args⟩) (by unfold okB; simp only [HX.out.1, HX.out.2.1, HX.out.2.2]; simp))
  go_enter Try.func49, Try.ntmps49
  go_wp2_with fail
  refine CA.out.mono ?_
  rintro e w1 ⟨rfl, hc1, hg1⟩
  have HA := hid (added hS hB hbp hc1 hg1)
  obtain ⟨k0, k1, k2, k3, k4, k5⟩ := HA.out.box
  clear hc1 hg1
  go_wp2_with (first | (go_at_call 58; refine (C58 _).out.mono ?_; rintro e w' ⟨rfl, rfl⟩) | (go_at_call 59; refine (C59 _ _ _ _).out.mono ?_; rintro e w' ⟨rfl, rfl⟩) | (go_at_call 60; refine (CNM _ _ _ (by first | exact HS.out | exact HF.out)).mono ?_; rintro e w' ⟨rfl, rfl⟩))
  go_ret
  exact says_no HA.out.cnt HA.out.grown HN.out

theorem expr49 (w : World) (B : Nat) (x : Ex) (A : Option Addr) (c : Nat) (hf : Fits x c) (hd : ExprsDo w B x.args A)
    (n d : Int) (bp : Nat) (W : World) (hS : Same B w W) (hB : B ≤ bp) (hbp : bp < W.heap.size) (hn0 : 0 ≤ n) (hn1 : n ≤ 500) (hd0 : 1 ≤ d) (hc : Cnt W bp n) :
    Calls Try.prog 49 #[.pointer (some ⟨bp, 0, none⟩), .agg #[.int .i64 x.op, .int .i64 x.kind, .int .i64 x.n, .string x.s, .string x.f, .slice A x.args.length c], .int .i64 d] W (ExprSays n d x bp W) := by
  obtain ⟨op, kind, nn, s, f, args⟩ := x
  by_cases ho : op < 1 ∨ 21 < op
  · exact expr49_o w B op kind nn s f args A c hf.s hf.f hf.l hf.c hd n d bp W hS hB hbp hn0 hn1 hd0 hc ho
  by_cases h8 : 8 ≤ op
  · exact expr49_b w B op kind nn s f args A c hf.s hf.f hf.l hf.c hd n d bp W hS hB hbp hn0 hn1 hd0 hc h8 (by omega)
  rcases (show op = 1 ∨ op = 2 ∨ op = 3 ∨ op = 4 ∨ op = 5 ∨ op = 6 ∨ op = 7 by omega) with rfl | rfl | rfl | rfl | rfl | rfl | rfl
  · exact expr49_1 w B kind nn s f args A c hf.s hf.f hf.l hf.c hd n d bp W hS hB hbp hn0 hn1 hd0 hc
  · exact expr49_2 w B kind nn s f args A c hf.s hf.f hf.l hf.c hd n d bp W hS hB hbp hn0 hn1 hd0 hc
  · exact expr49_3 w B kind nn s f args A c hf.s hf.f hf.l hf.c hd n d bp W hS hB hbp hn0 hn1 hd0 hc
  · exact expr49_4 w B kind nn s f args A c hf.s hf.f hf.l hf.c hd n d bp W hS hB hbp hn0 hn1 hd0 hc
  · exact expr49_5 w B kind nn s f args A c hf.s hf.f hf.l hf.c hd n d bp W hS hB hbp hn0 hn1 hd0 hc
  · exact expr49_6 w B kind nn s f args A c hf.s hf.f hf.l hf.c hd n d bp W hS hB hbp hn0 hn1 hd0 hc
  · exact expr49_7 w B kind nn s f args A c hf.s hf.f hf.l hf.c hd n d bp W hS hB hbp hn0 hn1 hd0 hc
end Go.Proofs.Ytmkpoaapcghohaa
