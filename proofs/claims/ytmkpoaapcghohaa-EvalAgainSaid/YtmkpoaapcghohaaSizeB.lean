/- Contract: the reference's Size.Expr, at some of the operators. -/
import Derived.Test.YtmkpoaapcghohaaSizeA
namespace Go.Proofs.Ytmkpoaapcghohaa
open Go.RowKit
set_option linter.unusedSimpArgs false

set_option maxHeartbeats 8000000 in
set_option maxRecDepth 100000 in
theorem sexpr42_7 (w : World) (B : Nat) (kind nn : Int) (s f : ByteArray) (args : List Ex) (A : Option Addr) (c : Nat) (hs : s.size ≤ maxLen) (hf : f.size ≤ maxLen) (hl : args.length ≤ c) (hcm : c ≤ maxLen) (hd : SzExprsDo w B args A)
    (n d : Int) (bp : Nat) (W : World) (hS : Same B w W) (hB : B ≤ bp) (hbp : bp < W.heap.size) (hn0 : 0 ≤ n) (hn1 : n ≤ 500) (hd0 : 1 ≤ d) (hd1 : d ≤ 15) (hc : Sz W bp n false) :
    Calls Try.prog 42 #[.pointer (some ⟨bp, 0, none⟩), .agg #[.int .i64 7, .int .i64 kind, .int .i64 nn, .string s, .string f, .slice A args.length c], .int .i64 d] W (SzExprSays n d ⟨7, kind, nn, s, f, args⟩ bp W) := by
  have HS := hid hs
  have HF := hid hf
  have HD := hid hd
  have HA := hid (sized_start (op := 7) (kind := kind) (nn := nn) (s := s) (f := f) (args := args) (A := A) (c := c) hS hB hbp hc)
  have hsb : (W.alloc (.cells #[.int .i64 7, .int .i64 kind, .int .i64 nn, .string s, .string f, .slice A args.length c] 49)).cell? ⟨bp, 2, none⟩ = some (.bool false) := HA.out.sz.b
  clear hs hf hd hc hS
  by_cases hlen : args.length = 1
  · have hlb : ((args.length : Int) == 1) = true := beq_iff_eq.2 (by omega)
    have HL := hid hlen
    clear hlen
    by_cases hk : kind = 0
    · subst hk
      go_enter Try.func42, Try.ntmps42
      go_wp2_with fail
      clear hsb
      refine (node52 bp n d _ hn0 (by omega) HA.out.sz).mono ?_
      rintro e v0 ⟨rfl, hz, hg⟩
      have HA0 := hid (HA.out.step hB hbp hz hg)
      obtain ⟨k0, k1, k2, k3, k4, k5⟩ := HA0.out.box
      clear hz hg HA
      go_wp2_with fail
      refine (right53 bp (n + 1) (!addB n d) (nn == 0) _ HA0.out.sz).mono ?_
      rintro e v1 ⟨rfl, hz, hg⟩
      have HA1 := hid (HA0.out.step hB hbp hz hg)
      clear k0 k1 k2 k3 k4 k5
      obtain ⟨k0, k1, k2, k3, k4, k5⟩ := HA1.out.box
      clear hz hg HA0
      go_wp2_with fail
      refine (right53 bp (n + 1) (orN (!addB n d) (nn == 0)) s.toList.isEmpty _ HA1.out.sz).mono ?_
      rintro e v2 ⟨rfl, hz, hg⟩
      have HA2 := hid (HA1.out.step hB hbp hz hg)
      clear k0 k1 k2 k3 k4 k5
      obtain ⟨k0, k1, k2, k3, k4, k5⟩ := HA2.out.box
      clear hz hg HA1
      go_wp2_with fail
      refine (right53 bp (n + 1) (orN (orN (!addB n d) (nn == 0)) s.toList.isEmpty) f.toList.isEmpty _ HA2.out.sz).mono ?_
      rintro e v3 ⟨rfl, hz, hg⟩
      have HA3 := hid (HA2.out.step hB hbp hz hg)
      clear k0 k1 k2 k3 k4 k5
      obtain ⟨k0, k1, k2, k3, k4, k5⟩ := HA3.out.box
      clear hz hg HA2
      go_wp2_with fail
      have HB : Hid ((orN (orN (orN (!addB n d) (nn == 0)) s.toList.isEmpty) f.toList.isEmpty) = !(addB n d && okB ⟨7, 0, nn, s, f, args⟩)) := hid (by simp [orN, okB, arB, namedOf, fieldOf, HL.out, nmB_false] <;> (try (cases addB n d <;> simp)))
      refine (HD.out (n + 1) (d + 1) _ bp c _ HA3.out.same hB HA3.out.lt (by omega) (by omega) (fun h => addB_use HB.out h) (by omega) (by omega) hl hcm HA3.out.sz).mono ?_
      rintro e v4 hE
      have HE := hid (sz_end HA3.out HB.out hE)
      obtain ⟨rfl, _⟩ := hE
      go_wp2
      go_end0
      exact HE.out
    · have hkb : (kind == 0) = false := beq_eq_false_iff_ne.2 hk
      go_enter Try.func42, Try.ntmps42
      go_wp2_with fail
      clear hsb
      refine (node52 bp n d _ hn0 (by omega) HA.out.sz).mono ?_
      rintro e v0 ⟨rfl, hz, hg⟩
      have HA0 := hid (HA.out.step hB hbp hz hg)
      obtain ⟨k0, k1, k2, k3, k4, k5⟩ := HA0.out.box
      clear hz hg HA
      go_wp2_with fail
      refine (right53 bp (n + 1) (!addB n d) false _ HA0.out.sz).mono ?_
      rintro e v1 ⟨rfl, hz, hg⟩
      have HA1 := hid (HA0.out.step hB hbp hz hg)
      clear k0 k1 k2 k3 k4 k5
      obtain ⟨k0, k1, k2, k3, k4, k5⟩ := HA1.out.box
      clear hz hg HA0
      go_wp2_with fail
      refine (right53 bp (n + 1) (orN (!addB n d) false) s.toList.isEmpty _ HA1.out.sz).mono ?_
      rintro e v2 ⟨rfl, hz, hg⟩
      have HA2 := hid (HA1.out.step hB hbp hz hg)
      clear k0 k1 k2 k3 k4 k5
      obtain ⟨k0, k1, k2, k3, k4, k5⟩ := HA2.out.box
      clear hz hg HA1
      go_wp2_with fail
      refine (right53 bp (n + 1) (orN (orN (!addB n d) false) s.toList.isEmpty) f.toList.isEmpty _ HA2.out.sz).mono ?_
      rintro e v3 ⟨rfl, hz, hg⟩
      have HA3 := hid (HA2.out.step hB hbp hz hg)
      clear k0 k1 k2 k3 k4 k5
      obtain ⟨k0, k1, k2, k3, k4, k5⟩ := HA3.out.box
      clear hz hg HA2
      go_wp2_with fail
      have HB : Hid ((orN (orN (orN (!addB n d) false) s.toList.isEmpty) f.toList.isEmpty) = !(addB n d && okB ⟨7, kind, nn, s, f, args⟩)) := hid (by simp [orN, okB, arB, namedOf, fieldOf, HL.out, hk, nmB_false] <;> (try (cases addB n d <;> simp)))
      refine (HD.out (n + 1) (d + 1) _ bp c _ HA3.out.same hB HA3.out.lt (by omega) (by omega) (fun h => addB_use HB.out h) (by omega) (by omega) hl hcm HA3.out.sz).mono ?_
      rintro e v4 hE
      have HE := hid (sz_end HA3.out HB.out hE)
      obtain ⟨rfl, _⟩ := hE
      go_wp2
      go_end0
      exact HE.out
  · have hlb : ((args.length : Int) == 1) = false := beq_eq_false_iff_ne.2 (by omega)
    have HL := hid hlen
    clear hlen
    go_enter Try.func42, Try.ntmps42
    go_wp2_with fail
    clear hsb
    refine (node52 bp n d _ hn0 (by omega) HA.out.sz).mono ?_
    rintro e v0 ⟨rfl, hz, hg⟩
    have HA0 := hid (HA.out.step hB hbp hz hg)
    obtain ⟨k0, k1, k2, k3, k4, k5⟩ := HA0.out.box
    clear hz hg HA
    go_wp2_with fail
    refine (right53 bp (n + 1) (!addB n d) false _ HA0.out.sz).mono ?_
    rintro e v1 ⟨rfl, hz, hg⟩
    have HA1 := hid (HA0.out.step hB hbp hz hg)
    clear k0 k1 k2 k3 k4 k5
    obtain ⟨k0, k1, k2, k3, k4, k5⟩ := HA1.out.box
    clear hz hg HA0
    go_wp2_with fail
    refine (right53 bp (n + 1) (orN (!addB n d) false) s.toList.isEmpty _ HA1.out.sz).mono ?_
    rintro e v2 ⟨rfl, hz, hg⟩
    have HA2 := hid (HA1.out.step hB hbp hz hg)
    clear k0 k1 k2 k3 k4 k5
    obtain ⟨k0, k1, k2, k3, k4, k5⟩ := HA2.out.box
    clear hz hg HA1
    go_wp2_with fail
    refine (right53 bp (n + 1) (orN (orN (!addB n d) false) s.toList.isEmpty) f.toList.isEmpty _ HA2.out.sz).mono ?_
    rintro e v3 ⟨rfl, hz, hg⟩
    have HA3 := hid (HA2.out.step hB hbp hz hg)
    clear k0 k1 k2 k3 k4 k5
    obtain ⟨k0, k1, k2, k3, k4, k5⟩ := HA3.out.box
    clear hz hg HA2
    go_wp2_with fail
    have HB : Hid ((orN (orN (orN (!addB n d) false) s.toList.isEmpty) f.toList.isEmpty) = !(addB n d && okB ⟨7, kind, nn, s, f, args⟩)) := hid (by simp [orN, okB, arB, namedOf, fieldOf, HL.out, nmB_false] <;> (try (cases addB n d <;> simp)))
    refine (HD.out (n + 1) (d + 1) _ bp c _ HA3.out.same hB HA3.out.lt (by omega) (by omega) (fun h => addB_use HB.out h) (by omega) (by omega) hl hcm HA3.out.sz).mono ?_
    rintro e v4 hE
    have HE := hid (sz_end HA3.out HB.out hE)
    obtain ⟨rfl, _⟩ := hE
    go_wp2
    go_end0
    exact HE.out

set_option maxHeartbeats 8000000 in
set_option maxRecDepth 100000 in
theorem sexpr42_6 (w : World) (B : Nat) (kind nn : Int) (s f : ByteArray) (args : List Ex) (A : Option Addr) (c : Nat) (hs : s.size ≤ maxLen) (hf : f.size ≤ maxLen) (hl : args.length ≤ c) (hcm : c ≤ maxLen) (hd : SzExprsDo w B args A)
    (n d : Int) (bp : Nat) (W : World) (hS : Same B w W) (hB : B ≤ bp) (hbp : bp < W.heap.size) (hn0 : 0 ≤ n) (hn1 : n ≤ 500) (hd0 : 1 ≤ d) (hd1 : d ≤ 15) (hc : Sz W bp n false) :
    Calls Try.prog 42 #[.pointer (some ⟨bp, 0, none⟩), .agg #[.int .i64 6, .int .i64 kind, .int .i64 nn, .string s, .string f, .slice A args.length c], .int .i64 d] W (SzExprSays n d ⟨6, kind, nn, s, f, args⟩ bp W) := by
  have HS := hid hs
  have HF := hid hf
  have HD := hid hd
  have HA := hid (sized_start (op := 6) (kind := kind) (nn := nn) (s := s) (f := f) (args := args) (A := A) (c := c) hS hB hbp hc)
  have hsb : (W.alloc (.cells #[.int .i64 6, .int .i64 kind, .int .i64 nn, .string s, .string f, .slice A args.length c] 49)).cell? ⟨bp, 2, none⟩ = some (.bool false) := HA.out.sz.b
  clear hs hf hd hc hS
  by_cases hlen : args.length = 1
  · have hlb : ((args.length : Int) == 1) = true := beq_iff_eq.2 (by omega)
    have HL := hid hlen
    clear hlen
    by_cases hk : kind = 0
    · subst hk
      go_enter Try.func42, Try.ntmps42
      go_wp2_with fail
      clear hsb
      refine (node52 bp n d _ hn0 (by omega) HA.out.sz).mono ?_
      rintro e v0 ⟨rfl, hz, hg⟩
      have HA0 := hid (HA.out.step hB hbp hz hg)
      obtain ⟨k0, k1, k2, k3, k4, k5⟩ := HA0.out.box
      clear hz hg HA
      go_wp2_with fail
      refine (right53 bp (n + 1) (!addB n d) (nn == 0) _ HA0.out.sz).mono ?_
      rintro e v1 ⟨rfl, hz, hg⟩
      have HA1 := hid (HA0.out.step hB hbp hz hg)
      clear k0 k1 k2 k3 k4 k5
      obtain ⟨k0, k1, k2, k3, k4, k5⟩ := HA1.out.box
      clear hz hg HA0
      go_wp2_with fail
      refine (right53 bp (n + 1) (orN (!addB n d) (nn == 0)) s.toList.isEmpty _ HA1.out.sz).mono ?_
      rintro e v2 ⟨rfl, hz, hg⟩
      have HA2 := hid (HA1.out.step hB hbp hz hg)
      clear k0 k1 k2 k3 k4 k5
      obtain ⟨k0, k1, k2, k3, k4, k5⟩ := HA2.out.box
      clear hz hg HA1
      go_wp2_with fail
      refine (right53 bp (n + 1) (orN (orN (!addB n d) (nn == 0)) s.toList.isEmpty) f.toList.isEmpty _ HA2.out.sz).mono ?_
      rintro e v3 ⟨rfl, hz, hg⟩
      have HA3 := hid (HA2.out.step hB hbp hz hg)
      clear k0 k1 k2 k3 k4 k5
      obtain ⟨k0, k1, k2, k3, k4, k5⟩ := HA3.out.box
      clear hz hg HA2
      go_wp2_with fail
      have HB : Hid ((orN (orN (orN (!addB n d) (nn == 0)) s.toList.isEmpty) f.toList.isEmpty) = !(addB n d && okB ⟨6, 0, nn, s, f, args⟩)) := hid (by simp [orN, okB, arB, namedOf, fieldOf, HL.out, nmB_false] <;> (try (cases addB n d <;> simp)))
      refine (HD.out (n + 1) (d + 1) _ bp c _ HA3.out.same hB HA3.out.lt (by omega) (by omega) (fun h => addB_use HB.out h) (by omega) (by omega) hl hcm HA3.out.sz).mono ?_
      rintro e v4 hE
      have HE := hid (sz_end HA3.out HB.out hE)
      obtain ⟨rfl, _⟩ := hE
      go_wp2
      go_end0
      exact HE.out
    · have hkb : (kind == 0) = false := beq_eq_false_iff_ne.2 hk
      go_enter Try.func42, Try.ntmps42
      go_wp2_with fail
      clear hsb
      refine (node52 bp n d _ hn0 (by omega) HA.out.sz).mono ?_
      rintro e v0 ⟨rfl, hz, hg⟩
      have HA0 := hid (HA.out.step hB hbp hz hg)
      obtain ⟨k0, k1, k2, k3, k4, k5⟩ := HA0.out.box
      clear hz hg HA
      go_wp2_with fail
      refine (right53 bp (n + 1) (!addB n d) false _ HA0.out.sz).mono ?_
      rintro e v1 ⟨rfl, hz, hg⟩
      have HA1 := hid (HA0.out.step hB hbp hz hg)
      clear k0 k1 k2 k3 k4 k5
      obtain ⟨k0, k1, k2, k3, k4, k5⟩ := HA1.out.box
      clear hz hg HA0
      go_wp2_with fail
      refine (right53 bp (n + 1) (orN (!addB n d) false) s.toList.isEmpty _ HA1.out.sz).mono ?_
      rintro e v2 ⟨rfl, hz, hg⟩
      have HA2 := hid (HA1.out.step hB hbp hz hg)
      clear k0 k1 k2 k3 k4 k5
      obtain ⟨k0, k1, k2, k3, k4, k5⟩ := HA2.out.box
      clear hz hg HA1
      go_wp2_with fail
      refine (right53 bp (n + 1) (orN (orN (!addB n d) false) s.toList.isEmpty) f.toList.isEmpty _ HA2.out.sz).mono ?_
      rintro e v3 ⟨rfl, hz, hg⟩
      have HA3 := hid (HA2.out.step hB hbp hz hg)
      clear k0 k1 k2 k3 k4 k5
      obtain ⟨k0, k1, k2, k3, k4, k5⟩ := HA3.out.box
      clear hz hg HA2
      go_wp2_with fail
      have HB : Hid ((orN (orN (orN (!addB n d) false) s.toList.isEmpty) f.toList.isEmpty) = !(addB n d && okB ⟨6, kind, nn, s, f, args⟩)) := hid (by simp [orN, okB, arB, namedOf, fieldOf, HL.out, hk, nmB_false] <;> (try (cases addB n d <;> simp)))
      refine (HD.out (n + 1) (d + 1) _ bp c _ HA3.out.same hB HA3.out.lt (by omega) (by omega) (fun h => addB_use HB.out h) (by omega) (by omega) hl hcm HA3.out.sz).mono ?_
      rintro e v4 hE
      have HE := hid (sz_end HA3.out HB.out hE)
      obtain ⟨rfl, _⟩ := hE
      go_wp2
      go_end0
      exact HE.out
  · have hlb : ((args.length : Int) == 1) = false := beq_eq_false_iff_ne.2 (by omega)
    have HL := hid hlen
    clear hlen
    go_enter Try.func42, Try.ntmps42
    go_wp2_with fail
    clear hsb
    refine (node52 bp n d _ hn0 (by omega) HA.out.sz).mono ?_
    rintro e v0 ⟨rfl, hz, hg⟩
    have HA0 := hid (HA.out.step hB hbp hz hg)
    obtain ⟨k0, k1, k2, k3, k4, k5⟩ := HA0.out.box
    clear hz hg HA
    go_wp2_with fail
    refine (right53 bp (n + 1) (!addB n d) false _ HA0.out.sz).mono ?_
    rintro e v1 ⟨rfl, hz, hg⟩
    have HA1 := hid (HA0.out.step hB hbp hz hg)
    clear k0 k1 k2 k3 k4 k5
    obtain ⟨k0, k1, k2, k3, k4, k5⟩ := HA1.out.box
    clear hz hg HA0
    go_wp2_with fail
    refine (right53 bp (n + 1) (orN (!addB n d) false) s.toList.isEmpty _ HA1.out.sz).mono ?_
    rintro e v2 ⟨rfl, hz, hg⟩
    have HA2 := hid (HA1.out.step hB hbp hz hg)
    clear k0 k1 k2 k3 k4 k5
    obtain ⟨k0, k1, k2, k3, k4, k5⟩ := HA2.out.box
    clear hz hg HA1
    go_wp2_with fail
    refine (right53 bp (n + 1) (orN (orN (!addB n d) false) s.toList.isEmpty) f.toList.isEmpty _ HA2.out.sz).mono ?_
    rintro e v3 ⟨rfl, hz, hg⟩
    have HA3 := hid (HA2.out.step hB hbp hz hg)
    clear k0 k1 k2 k3 k4 k5
    obtain ⟨k0, k1, k2, k3, k4, k5⟩ := HA3.out.box
    clear hz hg HA2
    go_wp2_with fail
    have HB : Hid ((orN (orN (orN (!addB n d) false) s.toList.isEmpty) f.toList.isEmpty) = !(addB n d && okB ⟨6, kind, nn, s, f, args⟩)) := hid (by simp [orN, okB, arB, namedOf, fieldOf, HL.out, nmB_false] <;> (try (cases addB n d <;> simp)))
    refine (HD.out (n + 1) (d + 1) _ bp c _ HA3.out.same hB HA3.out.lt (by omega) (by omega) (fun h => addB_use HB.out h) (by omega) (by omega) hl hcm HA3.out.sz).mono ?_
    rintro e v4 hE
    have HE := hid (sz_end HA3.out HB.out hE)
    obtain ⟨rfl, _⟩ := hE
    go_wp2
    go_end0
    exact HE.out

set_option maxHeartbeats 8000000 in
set_option maxRecDepth 100000 in
theorem sexpr42_b (w : World) (B : Nat) (op kind nn : Int) (s f : ByteArray) (args : List Ex) (A : Option Addr) (c : Nat) (hs : s.size ≤ maxLen) (hf : f.size ≤ maxLen) (hl : args.length ≤ c) (hcm : c ≤ maxLen) (hd : SzExprsDo w B args A)
    (n d : Int) (bp : Nat) (W : World) (hS : Same B w W) (hB : B ≤ bp) (hbp : bp < W.heap.size) (hn0 : 0 ≤ n) (hn1 : n ≤ 500) (hd0 : 1 ≤ d) (hd1 : d ≤ 15) (hc : Sz W bp n false) (ho0 : 8 ≤ op) (ho1 : op ≤ 21) :
    Calls Try.prog 42 #[.pointer (some ⟨bp, 0, none⟩), .agg #[.int .i64 op, .int .i64 kind, .int .i64 nn, .string s, .string f, .slice A args.length c], .int .i64 d] W (SzExprSays n d ⟨op, kind, nn, s, f, args⟩ bp W) := by
  have o1 : (op == 1) = false := beq_eq_false_iff_ne.2 (by omega)
  have o2 : (op == 2) = false := beq_eq_false_iff_ne.2 (by omega)
  have o3 : (op == 3) = false := beq_eq_false_iff_ne.2 (by omega)
  have o4 : (op == 4) = false := beq_eq_false_iff_ne.2 (by omega)
  have o5 : (op == 5) = false := beq_eq_false_iff_ne.2 (by omega)
  have o6 : (op == 6) = false := beq_eq_false_iff_ne.2 (by omega)
  have o7 : (op == 7) = false := beq_eq_false_iff_ne.2 (by omega)
  have ob : (op != 1) = true := bne_iff_ne.2 (by omega)
  have hx1 : namedOf op = false := by simp [namedOf]; omega
  have hx2 : fieldOf op = false := by simp [fieldOf]; omega
  have hx3 : arB op args.length = decide (args.length = 2) := by unfold arB; rw [if_neg (by omega), if_neg (by omega), if_neg (by omega), if_pos ⟨ho0, ho1⟩]
  have HX := hid (And.intro o1 (And.intro ob (And.intro hx1 (And.intro hx2 hx3))))
  clear hx1 hx2 hx3 ob
  have HS := hid hs
  have HF := hid hf
  have HD := hid hd
  have HA := hid (sized_start (op := op) (kind := kind) (nn := nn) (s := s) (f := f) (args := args) (A := A) (c := c) hS hB hbp hc)
  have hsb : (W.alloc (.cells #[.int .i64 op, .int .i64 kind, .int .i64 nn, .string s, .string f, .slice A args.length c] 49)).cell? ⟨bp, 2, none⟩ = some (.bool false) := HA.out.sz.b
  clear hs hf hd hc hS
  by_cases hlen : args.length = 2
  · have hlb : ((args.length : Int) == 2) = true := beq_iff_eq.2 (by omega)
    have HL := hid hlen
    clear hlen
    by_cases hk : kind = 0
    · subst hk
      go_enter Try.func42, Try.ntmps42
      go_wp2_with fail
      clear hsb
      refine (node52 bp n d _ hn0 (by omega) HA.out.sz).mono ?_
      rintro e v0 ⟨rfl, hz, hg⟩
      have HA0 := hid (HA.out.step hB hbp hz hg)
      obtain ⟨k0, k1, k2, k3, k4, k5⟩ := HA0.out.box
      clear hz hg HA
      go_wp2_with fail
      refine (right53 bp (n + 1) (!addB n d) true _ HA0.out.sz).mono ?_
      rintro e v1 ⟨rfl, hz, hg⟩
      have HA1 := hid (HA0.out.step hB hbp hz hg)
      clear k0 k1 k2 k3 k4 k5
      obtain ⟨k0, k1, k2, k3, k4, k5⟩ := HA1.out.box
      clear hz hg HA0
      go_wp2_with fail
      refine (right53 bp (n + 1) (orN (!addB n d) true) (nn == 0) _ HA1.out.sz).mono ?_
      rintro e v2 ⟨rfl, hz, hg⟩
      have HA2 := hid (HA1.out.step hB hbp hz hg)
      clear k0 k1 k2 k3 k4 k5
      obtain ⟨k0, k1, k2, k3, k4, k5⟩ := HA2.out.box
      clear hz hg HA1
      go_wp2_with fail
      refine (right53 bp (n + 1) (orN (orN (!addB n d) true) (nn == 0)) s.toList.isEmpty _ HA2.out.sz).mono ?_
      rintro e v3 ⟨rfl, hz, hg⟩
      have HA3 := hid (HA2.out.step hB hbp hz hg)
      clear k0 k1 k2 k3 k4 k5
      obtain ⟨k0, k1, k2, k3, k4, k5⟩ := HA3.out.box
      clear hz hg HA2
      go_wp2_with fail
      refine (right53 bp (n + 1) (orN (orN (orN (!addB n d) true) (nn == 0)) s.toList.isEmpty) f.toList.isEmpty _ HA3.out.sz).mono ?_
      rintro e v4 ⟨rfl, hz, hg⟩
      have HA4 := hid (HA3.out.step hB hbp hz hg)
      clear k0 k1 k2 k3 k4 k5
      obtain ⟨k0, k1, k2, k3, k4, k5⟩ := HA4.out.box
      clear hz hg HA3
      go_wp2_with fail
      have HB : Hid ((orN (orN (orN (orN (!addB n d) true) (nn == 0)) s.toList.isEmpty) f.toList.isEmpty) = !(addB n d && okB ⟨op, 0, nn, s, f, args⟩)) := hid (by unfold okB; simp only [HX.out.1, HX.out.2.1, HX.out.2.2.1, HX.out.2.2.2.1, HX.out.2.2.2.2]; simp [orN, HL.out, nmB_false] <;> (try (cases addB n d <;> simp)))
      refine (HD.out (n + 1) (d + 1) _ bp c _ HA4.out.same hB HA4.out.lt (by omega) (by omega) (fun h => addB_use HB.out h) (by omega) (by omega) hl hcm HA4.out.sz).mono ?_
      rintro e v5 hE
      have HE := hid (sz_end HA4.out HB.out hE)
      obtain ⟨rfl, _⟩ := hE
      go_wp2
      go_end0
      exact HE.out
    · have hkb : (kind == 0) = false := beq_eq_false_iff_ne.2 hk
      go_enter Try.func42, Try.ntmps42
      go_wp2_with fail
      clear hsb
      refine (node52 bp n d _ hn0 (by omega) HA.out.sz).mono ?_
      rintro e v0 ⟨rfl, hz, hg⟩
      have HA0 := hid (HA.out.step hB hbp hz hg)
      obtain ⟨k0, k1, k2, k3, k4, k5⟩ := HA0.out.box
      clear hz hg HA
      go_wp2_with fail
      refine (right53 bp (n + 1) (!addB n d) true _ HA0.out.sz).mono ?_
      rintro e v1 ⟨rfl, hz, hg⟩
      have HA1 := hid (HA0.out.step hB hbp hz hg)
      clear k0 k1 k2 k3 k4 k5
      obtain ⟨k0, k1, k2, k3, k4, k5⟩ := HA1.out.box
      clear hz hg HA0
      go_wp2_with fail
      refine (right53 bp (n + 1) (orN (!addB n d) true) false _ HA1.out.sz).mono ?_
      rintro e v2 ⟨rfl, hz, hg⟩
      have HA2 := hid (HA1.out.step hB hbp hz hg)
      clear k0 k1 k2 k3 k4 k5
      obtain ⟨k0, k1, k2, k3, k4, k5⟩ := HA2.out.box
      clear hz hg HA1
      go_wp2_with fail
      refine (right53 bp (n + 1) (orN (orN (!addB n d) true) false) s.toList.isEmpty _ HA2.out.sz).mono ?_
      rintro e v3 ⟨rfl, hz, hg⟩
      have HA3 := hid (HA2.out.step hB hbp hz hg)
      clear k0 k1 k2 k3 k4 k5
      obtain ⟨k0, k1, k2, k3, k4, k5⟩ := HA3.out.box
      clear hz hg HA2
      go_wp2_with fail
      refine (right53 bp (n + 1) (orN (orN (orN (!addB n d) true) false) s.toList.isEmpty) f.toList.isEmpty _ HA3.out.sz).mono ?_
      rintro e v4 ⟨rfl, hz, hg⟩
      have HA4 := hid (HA3.out.step hB hbp hz hg)
      clear k0 k1 k2 k3 k4 k5
      obtain ⟨k0, k1, k2, k3, k4, k5⟩ := HA4.out.box
      clear hz hg HA3
      go_wp2_with fail
      have HB : Hid ((orN (orN (orN (orN (!addB n d) true) false) s.toList.isEmpty) f.toList.isEmpty) = !(addB n d && okB ⟨op, kind, nn, s, f, args⟩)) := hid (by unfold okB; simp only [HX.out.1, HX.out.2.1, HX.out.2.2.1, HX.out.2.2.2.1, HX.out.2.2.2.2]; simp [orN, HL.out, hk, nmB_false] <;> (try (cases addB n d <;> simp)))
      refine (HD.out (n + 1) (d + 1) _ bp c _ HA4.out.same hB HA4.out.lt (by omega) (by omega) (fun h => addB_use HB.out h) (by omega) (by omega) hl hcm HA4.out.sz).mono ?_
      rintro e v5 hE
      have HE := hid (sz_end HA4.out HB.out hE)
      obtain ⟨rfl, _⟩ := hE
      go_wp2
      go_end0
      exact HE.out
  · have hlb : ((args.length : Int) == 2) = false := beq_eq_false_iff_ne.2 (by omega)
    have HL := hid hlen
    clear hlen
    go_enter Try.func42, Try.ntmps42
    go_wp2_with fail
    clear hsb
    refine (node52 bp n d _ hn0 (by omega) HA.out.sz).mono ?_
    rintro e v0 ⟨rfl, hz, hg⟩
    have HA0 := hid (HA.out.step hB hbp hz hg)
    obtain ⟨k0, k1, k2, k3, k4, k5⟩ := HA0.out.box
    clear hz hg HA
    go_wp2_with fail
    refine (right53 bp (n + 1) (!addB n d) true _ HA0.out.sz).mono ?_
    rintro e v1 ⟨rfl, hz, hg⟩
    have HA1 := hid (HA0.out.step hB hbp hz hg)
    clear k0 k1 k2 k3 k4 k5
    obtain ⟨k0, k1, k2, k3, k4, k5⟩ := HA1.out.box
    clear hz hg HA0
    go_wp2_with fail
    refine (right53 bp (n + 1) (orN (!addB n d) true) false _ HA1.out.sz).mono ?_
    rintro e v2 ⟨rfl, hz, hg⟩
    have HA2 := hid (HA1.out.step hB hbp hz hg)
    clear k0 k1 k2 k3 k4 k5
    obtain ⟨k0, k1, k2, k3, k4, k5⟩ := HA2.out.box
    clear hz hg HA1
    go_wp2_with fail
    refine (right53 bp (n + 1) (orN (orN (!addB n d) true) false) s.toList.isEmpty _ HA2.out.sz).mono ?_
    rintro e v3 ⟨rfl, hz, hg⟩
    have HA3 := hid (HA2.out.step hB hbp hz hg)
    clear k0 k1 k2 k3 k4 k5
    obtain ⟨k0, k1, k2, k3, k4, k5⟩ := HA3.out.box
    clear hz hg HA2
    go_wp2_with fail
    refine (right53 bp (n + 1) (orN (orN (orN (!addB n d) true) false) s.toList.isEmpty) f.toList.isEmpty _ HA3.out.sz).mono ?_
    rintro e v4 ⟨rfl, hz, hg⟩
    have HA4 := hid (HA3.out.step hB hbp hz hg)
    clear k0 k1 k2 k3 k4 k5
    obtain ⟨k0, k1, k2, k3, k4, k5⟩ := HA4.out.box
    clear hz hg HA3
    go_wp2_with fail
    have HB : Hid ((orN (orN (orN (orN (!addB n d) true) false) s.toList.isEmpty) f.toList.isEmpty) = !(addB n d && okB ⟨op, kind, nn, s, f, args⟩)) := hid (by unfold okB; simp only [HX.out.1, HX.out.2.1, HX.out.2.2.1, HX.out.2.2.2.1, HX.out.2.2.2.2]; simp [orN, HL.out, nmB_false] <;> (try (cases addB n d <;> simp)))
    refine (HD.out (n + 1) (d + 1) _ bp c _ HA4.out.same hB HA4.out.lt (by omega) (by omega) (fun h => addB_use HB.out h) (by omega) (by omega) hl hcm HA4.out.sz).mono ?_
    rintro e v5 hE
    have HE := hid (sz_end HA4.out HB.out hE)
    obtain ⟨rfl, _⟩ := hE
    go_wp2
    go_end0
    exact HE.out

end Go.Proofs.Ytmkpoaapcghohaa
