/- Contract: the reference's Size.Expr, at some of the operators. -/
import Derived.Test.YtmkpoaapcghohaaSizeA
namespace Go.Proofs.Ytmkpoaapcghohaa
open Go.RowKit
set_option linter.unusedSimpArgs false

set_option maxHeartbeats 8000000 in
set_option maxRecDepth 100000 in
theorem sexpr42_1 (w : World) (B : Nat) (kind nn : Int) (s f : ByteArray) (args : List Ex) (A : Option Addr) (c : Nat) (hs : s.size ≤ maxLen) (hf : f.size ≤ maxLen) (hl : args.length ≤ c) (hcm : c ≤ maxLen) (hd : SzExprsDo w B args A)
    (n d : Int) (bp : Nat) (W : World) (hS : Same B w W) (hB : B ≤ bp) (hbp : bp < W.heap.size) (hn0 : 0 ≤ n) (hn1 : n ≤ 500) (hd0 : 1 ≤ d) (hd1 : d ≤ 15) (hc : Sz W bp n false) :
    Calls Try.prog 42 #[.pointer (some ⟨bp, 0, none⟩), .agg #[.int .i64 1, .int .i64 kind, .int .i64 nn, .string s, .string f, .slice A args.length c], .int .i64 d] W (SzExprSays n d ⟨1, kind, nn, s, f, args⟩ bp W) := by
  have HS := hid hs
  have HF := hid hf
  have HD := hid hd
  have HA := hid (sized_start (op := 1) (kind := kind) (nn := nn) (s := s) (f := f) (args := args) (A := A) (c := c) hS hB hbp hc)
  have hsb : (W.alloc (.cells #[.int .i64 1, .int .i64 kind, .int .i64 nn, .string s, .string f, .slice A args.length c] 49)).cell? ⟨bp, 2, none⟩ = some (.bool false) := HA.out.sz.b
  clear hs hf hd hc hS
  by_cases g0 : 0 ≤ nn
  · by_cases g1 : nn ≤ 2147483647
    · by_cases g2 : kind = 2
      · subst g2
        have hcb : constB 2 nn = true := by unfold constB; simp; omega
        by_cases hlen : args.length = 0
        · have hlb : ((args.length : Int) == 0) = true := beq_iff_eq.2 (by omega)
          have HL := hid hlen
          clear hlen
          go_enter Try.func42, Try.ntmps42
          go_wp2_with fail
          clear hsb
          refine (node52 bp n d _ hn0 (by omega) HA.out.sz).mono ?_
          rintro e v0 ⟨rfl, hz, hg⟩
          have HA0 := hid (HA.out.step hB hbp hz hg)
          obtain ⟨k0, k1, k2, k3, k4, k5⟩ := HA0.out.box
          clear hz hg HA
          go_wp2_with fail
          refine (right53 bp (n + 1) (!addB n d) true _ HA0.out.sz).mono ?_
          rintro e v1 ⟨rfl, hz, hg⟩
          have HA1 := hid (HA0.out.step hB hbp hz hg)
          clear k0 k1 k2 k3 k4 k5
          obtain ⟨k0, k1, k2, k3, k4, k5⟩ := HA1.out.box
          clear hz hg HA0
          go_wp2_with fail
          refine (right53 bp (n + 1) (orN (!addB n d) true) true _ HA1.out.sz).mono ?_
          rintro e v2 ⟨rfl, hz, hg⟩
          have HA2 := hid (HA1.out.step hB hbp hz hg)
          clear k0 k1 k2 k3 k4 k5
          obtain ⟨k0, k1, k2, k3, k4, k5⟩ := HA2.out.box
          clear hz hg HA1
          go_wp2_with fail
          refine (right53 bp (n + 1) (orN (orN (!addB n d) true) true) s.toList.isEmpty _ HA2.out.sz).mono ?_
          rintro e v3 ⟨rfl, hz, hg⟩
          have HA3 := hid (HA2.out.step hB hbp hz hg)
          clear k0 k1 k2 k3 k4 k5
          obtain ⟨k0, k1, k2, k3, k4, k5⟩ := HA3.out.box
          clear hz hg HA2
          go_wp2_with fail
          refine (right53 bp (n + 1) (orN (orN (orN (!addB n d) true) true) s.toList.isEmpty) f.toList.isEmpty _ HA3.out.sz).mono ?_
          rintro e v4 ⟨rfl, hz, hg⟩
          have HA4 := hid (HA3.out.step hB hbp hz hg)
          clear k0 k1 k2 k3 k4 k5
          obtain ⟨k0, k1, k2, k3, k4, k5⟩ := HA4.out.box
          clear hz hg HA3
          go_wp2_with fail
          have HB : Hid ((orN (orN (orN (orN (!addB n d) true) true) s.toList.isEmpty) f.toList.isEmpty) = !(addB n d && okB ⟨1, 2, nn, s, f, args⟩)) := hid (by simp [orN, okB, arB, namedOf, fieldOf, hcb, HL.out, nmB_false] <;> (try (cases addB n d <;> simp)))
          refine (HD.out (n + 1) (d + 1) _ bp c _ HA4.out.same hB HA4.out.lt (by omega) (by omega) (fun h => addB_use HB.out h) (by omega) (by omega) hl hcm HA4.out.sz).mono ?_
          rintro e v5 hE
          have HE := hid (sz_end HA4.out HB.out hE)
          obtain ⟨rfl, _⟩ := hE
          go_wp2
          go_end0
          exact HE.out
        · have hlb : ((args.length : Int) == 0) = false := beq_eq_false_iff_ne.2 (by omega)
          have HL := hid hlen
          clear hlen
          go_enter Try.func42, Try.ntmps42
          go_wp2_with fail
          clear hsb
          refine (node52 bp n d _ hn0 (by omega) HA.out.sz).mono ?_
          rintro e v0 ⟨rfl, hz, hg⟩
          have HA0 := hid (HA.out.step hB hbp hz hg)
          obtain ⟨k0, k1, k2, k3, k4, k5⟩ := HA0.out.box
          clear hz hg HA
          go_wp2_with fail
          refine (right53 bp (n + 1) (!addB n d) true _ HA0.out.sz).mono ?_
          rintro e v1 ⟨rfl, hz, hg⟩
          have HA1 := hid (HA0.out.step hB hbp hz hg)
          clear k0 k1 k2 k3 k4 k5
          obtain ⟨k0, k1, k2, k3, k4, k5⟩ := HA1.out.box
          clear hz hg HA0
          go_wp2_with fail
          refine (right53 bp (n + 1) (orN (!addB n d) true) false _ HA1.out.sz).mono ?_
          rintro e v2 ⟨rfl, hz, hg⟩
          have HA2 := hid (HA1.out.step hB hbp hz hg)
          clear k0 k1 k2 k3 k4 k5
          obtain ⟨k0, k1, k2, k3, k4, k5⟩ := HA2.out.box
          clear hz hg HA1
          go_wp2_with fail
          refine (right53 bp (n + 1) (orN (orN (!addB n d) true) false) s.toList.isEmpty _ HA2.out.sz).mono ?_
          rintro e v3 ⟨rfl, hz, hg⟩
          have HA3 := hid (HA2.out.step hB hbp hz hg)
          clear k0 k1 k2 k3 k4 k5
          obtain ⟨k0, k1, k2, k3, k4, k5⟩ := HA3.out.box
          clear hz hg HA2
          go_wp2_with fail
          refine (right53 bp (n + 1) (orN (orN (orN (!addB n d) true) false) s.toList.isEmpty) f.toList.isEmpty _ HA3.out.sz).mono ?_
          rintro e v4 ⟨rfl, hz, hg⟩
          have HA4 := hid (HA3.out.step hB hbp hz hg)
          clear k0 k1 k2 k3 k4 k5
          obtain ⟨k0, k1, k2, k3, k4, k5⟩ := HA4.out.box
          clear hz hg HA3
          go_wp2_with fail
          have HB : Hid ((orN (orN (orN (orN (!addB n d) true) false) s.toList.isEmpty) f.toList.isEmpty) = !(addB n d && okB ⟨1, 2, nn, s, f, args⟩)) := hid (by simp [orN, okB, arB, namedOf, fieldOf, hcb, HL.out, nmB_false] <;> (try (cases addB n d <;> simp)))
          refine (HD.out (n + 1) (d + 1) _ bp c _ HA4.out.same hB HA4.out.lt (by omega) (by omega) (fun h => addB_use HB.out h) (by omega) (by omega) hl hcm HA4.out.sz).mono ?_
          rintro e v5 hE
          have HE := hid (sz_end HA4.out HB.out hE)
          obtain ⟨rfl, _⟩ := hE
          go_wp2
          go_end0
          exact HE.out
      by_cases g3 : kind = 3
      · subst g3
        have hcb : constB 3 nn = true := by unfold constB; simp; omega
        by_cases hlen : args.length = 0
        · have hlb : ((args.length : Int) == 0) = true := beq_iff_eq.2 (by omega)
          have HL := hid hlen
          clear hlen
          go_enter Try.func42, Try.ntmps42
          go_wp2_with fail
          clear hsb
          refine (node52 bp n d _ hn0 (by omega) HA.out.sz).mono ?_
          rintro e v0 ⟨rfl, hz, hg⟩
          have HA0 := hid (HA.out.step hB hbp hz hg)
          obtain ⟨k0, k1, k2, k3, k4, k5⟩ := HA0.out.box
          clear hz hg HA
          go_wp2_with fail
          refine (right53 bp (n + 1) (!addB n d) true _ HA0.out.sz).mono ?_
          rintro e v1 ⟨rfl, hz, hg⟩
          have HA1 := hid (HA0.out.step hB hbp hz hg)
          clear k0 k1 k2 k3 k4 k5
          obtain ⟨k0, k1, k2, k3, k4, k5⟩ := HA1.out.box
          clear hz hg HA0
          go_wp2_with fail
          refine (right53 bp (n + 1) (orN (!addB n d) true) true _ HA1.out.sz).mono ?_
          rintro e v2 ⟨rfl, hz, hg⟩
          have HA2 := hid (HA1.out.step hB hbp hz hg)
          clear k0 k1 k2 k3 k4 k5
          obtain ⟨k0, k1, k2, k3, k4, k5⟩ := HA2.out.box
          clear hz hg HA1
          go_wp2_with fail
          refine (right53 bp (n + 1) (orN (orN (!addB n d) true) true) s.toList.isEmpty _ HA2.out.sz).mono ?_
          rintro e v3 ⟨rfl, hz, hg⟩
          have HA3 := hid (HA2.out.step hB hbp hz hg)
          clear k0 k1 k2 k3 k4 k5
          obtain ⟨k0, k1, k2, k3, k4, k5⟩ := HA3.out.box
          clear hz hg HA2
          go_wp2_with fail
          refine (right53 bp (n + 1) (orN (orN (orN (!addB n d) true) true) s.toList.isEmpty) f.toList.isEmpty _ HA3.out.sz).mono ?_
          rintro e v4 ⟨rfl, hz, hg⟩
          have HA4 := hid (HA3.out.step hB hbp hz hg)
          clear k0 k1 k2 k3 k4 k5
          obtain ⟨k0, k1, k2, k3, k4, k5⟩ := HA4.out.box
          clear hz hg HA3
          go_wp2_with fail
          have HB : Hid ((orN (orN (orN (orN (!addB n d) true) true) s.toList.isEmpty) f.toList.isEmpty) = !(addB n d && okB ⟨1, 3, nn, s, f, args⟩)) := hid (by simp [orN, okB, arB, namedOf, fieldOf, hcb, HL.out, nmB_false] <;> (try (cases addB n d <;> simp)))
          refine (HD.out (n + 1) (d + 1) _ bp c _ HA4.out.same hB HA4.out.lt (by omega) (by omega) (fun h => addB_use HB.out h) (by omega) (by omega) hl hcm HA4.out.sz).mono ?_
          rintro e v5 hE
          have HE := hid (sz_end HA4.out HB.out hE)
          obtain ⟨rfl, _⟩ := hE
          go_wp2
          go_end0
          exact HE.out
        · have hlb : ((args.length : Int) == 0) = false := beq_eq_false_iff_ne.2 (by omega)
          have HL := hid hlen
          clear hlen
          go_enter Try.func42, Try.ntmps42
          go_wp2_with fail
          clear hsb
          refine (node52 bp n d _ hn0 (by omega) HA.out.sz).mono ?_
          rintro e v0 ⟨rfl, hz, hg⟩
          have HA0 := hid (HA.out.step hB hbp hz hg)
          obtain ⟨k0, k1, k2, k3, k4, k5⟩ := HA0.out.box
          clear hz hg HA
          go_wp2_with fail
          refine (right53 bp (n + 1) (!addB n d) true _ HA0.out.sz).mono ?_
          rintro e v1 ⟨rfl, hz, hg⟩
          have HA1 := hid (HA0.out.step hB hbp hz hg)
          clear k0 k1 k2 k3 k4 k5
          obtain ⟨k0, k1, k2, k3, k4, k5⟩ := HA1.out.box
          clear hz hg HA0
          go_wp2_with fail
          refine (right53 bp (n + 1) (orN (!addB n d) true) false _ HA1.out.sz).mono ?_
          rintro e v2 ⟨rfl, hz, hg⟩
          have HA2 := hid (HA1.out.step hB hbp hz hg)
          clear k0 k1 k2 k3 k4 k5
          obtain ⟨k0, k1, k2, k3, k4, k5⟩ := HA2.out.box
          clear hz hg HA1
          go_wp2_with fail
          refine (right53 bp (n + 1) (orN (orN (!addB n d) true) false) s.toList.isEmpty _ HA2.out.sz).mono ?_
          rintro e v3 ⟨rfl, hz, hg⟩
          have HA3 := hid (HA2.out.step hB hbp hz hg)
          clear k0 k1 k2 k3 k4 k5
          obtain ⟨k0, k1, k2, k3, k4, k5⟩ := HA3.out.box
          clear hz hg HA2
          go_wp2_with fail
          refine (right53 bp (n + 1) (orN (orN (orN (!addB n d) true) false) s.toList.isEmpty) f.toList.isEmpty _ HA3.out.sz).mono ?_
          rintro e v4 ⟨rfl, hz, hg⟩
          have HA4 := hid (HA3.out.step hB hbp hz hg)
          clear k0 k1 k2 k3 k4 k5
          obtain ⟨k0, k1, k2, k3, k4, k5⟩ := HA4.out.box
          clear hz hg HA3
          go_wp2_with fail
          have HB : Hid ((orN (orN (orN (orN (!addB n d) true) false) s.toList.isEmpty) f.toList.isEmpty) = !(addB n d && okB ⟨1, 3, nn, s, f, args⟩)) := hid (by simp [orN, okB, arB, namedOf, fieldOf, hcb, HL.out, nmB_false] <;> (try (cases addB n d <;> simp)))
          refine (HD.out (n + 1) (d + 1) _ bp c _ HA4.out.same hB HA4.out.lt (by omega) (by omega) (fun h => addB_use HB.out h) (by omega) (by omega) hl hcm HA4.out.sz).mono ?_
          rintro e v5 hE
          have HE := hid (sz_end HA4.out HB.out hE)
          obtain ⟨rfl, _⟩ := hE
          go_wp2
          go_end0
          exact HE.out
      have g2b : (kind == 2) = false := beq_eq_false_iff_ne.2 g2
      have g3b : (kind == 3) = false := beq_eq_false_iff_ne.2 g3
      by_cases g4 : kind = 1
      · subst g4
        have hcb : constB 1 nn = decide (nn ≤ 1) := by unfold constB; rw [decide_eq_decide]; omega
        by_cases hlen : args.length = 0
        · have hlb : ((args.length : Int) == 0) = true := beq_iff_eq.2 (by omega)
          have HL := hid hlen
          clear hlen
          go_enter Try.func42, Try.ntmps42
          go_wp2_with fail
          clear hsb
          refine (node52 bp n d _ hn0 (by omega) HA.out.sz).mono ?_
          rintro e v0 ⟨rfl, hz, hg⟩
          have HA0 := hid (HA.out.step hB hbp hz hg)
          obtain ⟨k0, k1, k2, k3, k4, k5⟩ := HA0.out.box
          clear hz hg HA
          go_wp2_with fail
          refine (right53 bp (n + 1) (!addB n d) (decide (nn ≤ 1)) _ HA0.out.sz).mono ?_
          rintro e v1 ⟨rfl, hz, hg⟩
          have HA1 := hid (HA0.out.step hB hbp hz hg)
          clear k0 k1 k2 k3 k4 k5
          obtain ⟨k0, k1, k2, k3, k4, k5⟩ := HA1.out.box
          clear hz hg HA0
          go_wp2_with fail
          refine (right53 bp (n + 1) (orN (!addB n d) (decide (nn ≤ 1))) true _ HA1.out.sz).mono ?_
          rintro e v2 ⟨rfl, hz, hg⟩
          have HA2 := hid (HA1.out.step hB hbp hz hg)
          clear k0 k1 k2 k3 k4 k5
          obtain ⟨k0, k1, k2, k3, k4, k5⟩ := HA2.out.box
          clear hz hg HA1
          go_wp2_with fail
          refine (right53 bp (n + 1) (orN (orN (!addB n d) (decide (nn ≤ 1))) true) s.toList.isEmpty _ HA2.out.sz).mono ?_
          rintro e v3 ⟨rfl, hz, hg⟩
          have HA3 := hid (HA2.out.step hB hbp hz hg)
          clear k0 k1 k2 k3 k4 k5
          obtain ⟨k0, k1, k2, k3, k4, k5⟩ := HA3.out.box
          clear hz hg HA2
          go_wp2_with fail
          refine (right53 bp (n + 1) (orN (orN (orN (!addB n d) (decide (nn ≤ 1))) true) s.toList.isEmpty) f.toList.isEmpty _ HA3.out.sz).mono ?_
          rintro e v4 ⟨rfl, hz, hg⟩
          have HA4 := hid (HA3.out.step hB hbp hz hg)
          clear k0 k1 k2 k3 k4 k5
          obtain ⟨k0, k1, k2, k3, k4, k5⟩ := HA4.out.box
          clear hz hg HA3
          go_wp2_with fail
          have HB : Hid ((orN (orN (orN (orN (!addB n d) (decide (nn ≤ 1))) true) s.toList.isEmpty) f.toList.isEmpty) = !(addB n d && okB ⟨1, 1, nn, s, f, args⟩)) := hid (by simp [orN, okB, arB, namedOf, fieldOf, hcb, HL.out, nmB_false] <;> (try (cases addB n d <;> simp)))
          refine (HD.out (n + 1) (d + 1) _ bp c _ HA4.out.same hB HA4.out.lt (by omega) (by omega) (fun h => addB_use HB.out h) (by omega) (by omega) hl hcm HA4.out.sz).mono ?_
          rintro e v5 hE
          have HE := hid (sz_end HA4.out HB.out hE)
          obtain ⟨rfl, _⟩ := hE
          go_wp2
          go_end0
          exact HE.out
        · have hlb : ((args.length : Int) == 0) = false := beq_eq_false_iff_ne.2 (by omega)
          have HL := hid hlen
          clear hlen
          go_enter Try.func42, Try.ntmps42
          go_wp2_with fail
          clear hsb
          refine (node52 bp n d _ hn0 (by omega) HA.out.sz).mono ?_
          rintro e v0 ⟨rfl, hz, hg⟩
          have HA0 := hid (HA.out.step hB hbp hz hg)
          obtain ⟨k0, k1, k2, k3, k4, k5⟩ := HA0.out.box
          clear hz hg HA
          go_wp2_with fail
          refine (right53 bp (n + 1) (!addB n d) (decide (nn ≤ 1)) _ HA0.out.sz).mono ?_
          rintro e v1 ⟨rfl, hz, hg⟩
          have HA1 := hid (HA0.out.step hB hbp hz hg)
          clear k0 k1 k2 k3 k4 k5
          obtain ⟨k0, k1, k2, k3, k4, k5⟩ := HA1.out.box
          clear hz hg HA0
          go_wp2_with fail
          refine (right53 bp (n + 1) (orN (!addB n d) (decide (nn ≤ 1))) false _ HA1.out.sz).mono ?_
          rintro e v2 ⟨rfl, hz, hg⟩
          have HA2 := hid (HA1.out.step hB hbp hz hg)
          clear k0 k1 k2 k3 k4 k5
          obtain ⟨k0, k1, k2, k3, k4, k5⟩ := HA2.out.box
          clear hz hg HA1
          go_wp2_with fail
          refine (right53 bp (n + 1) (orN (orN (!addB n d) (decide (nn ≤ 1))) false) s.toList.isEmpty _ HA2.out.sz).mono ?_
          rintro e v3 ⟨rfl, hz, hg⟩
          have HA3 := hid (HA2.out.step hB hbp hz hg)
          clear k0 k1 k2 k3 k4 k5
          obtain ⟨k0, k1, k2, k3, k4, k5⟩ := HA3.out.box
          clear hz hg HA2
          go_wp2_with fail
          refine (right53 bp (n + 1) (orN (orN (orN (!addB n d) (decide (nn ≤ 1))) false) s.toList.isEmpty) f.toList.isEmpty _ HA3.out.sz).mono ?_
          rintro e v4 ⟨rfl, hz, hg⟩
          have HA4 := hid (HA3.out.step hB hbp hz hg)
          clear k0 k1 k2 k3 k4 k5
          obtain ⟨k0, k1, k2, k3, k4, k5⟩ := HA4.out.box
          clear hz hg HA3
          go_wp2_with fail
          have HB : Hid ((orN (orN (orN (orN (!addB n d) (decide (nn ≤ 1))) false) s.toList.isEmpty) f.toList.isEmpty) = !(addB n d && okB ⟨1, 1, nn, s, f, args⟩)) := hid (by simp [orN, okB, arB, namedOf, fieldOf, hcb, HL.out, nmB_false] <;> (try (cases addB n d <;> simp)))
          refine (HD.out (n + 1) (d + 1) _ bp c _ HA4.out.same hB HA4.out.lt (by omega) (by omega) (fun h => addB_use HB.out h) (by omega) (by omega) hl hcm HA4.out.sz).mono ?_
          rintro e v5 hE
          have HE := hid (sz_end HA4.out HB.out hE)
          obtain ⟨rfl, _⟩ := hE
          go_wp2
          go_end0
          exact HE.out
      · have g4b : (kind == 1) = false := beq_eq_false_iff_ne.2 g4
        have hcb : constB kind nn = false := by unfold constB; simp [g2, g3, g4]
        clear g2 g3 g4
        by_cases hlen : args.length = 0
        · have hlb : ((args.length : Int) == 0) = true := beq_iff_eq.2 (by omega)
          have HL := hid hlen
          clear hlen
          go_enter Try.func42, Try.ntmps42
          go_wp2_with fail
          clear hsb
          refine (node52 bp n d _ hn0 (by omega) HA.out.sz).mono ?_
          rintro e v0 ⟨rfl, hz, hg⟩
          have HA0 := hid (HA.out.step hB hbp hz hg)
          obtain ⟨k0, k1, k2, k3, k4, k5⟩ := HA0.out.box
          clear hz hg HA
          go_wp2_with fail
          refine (right53 bp (n + 1) (!addB n d) false _ HA0.out.sz).mono ?_
          rintro e v1 ⟨rfl, hz, hg⟩
          have HA1 := hid (HA0.out.step hB hbp hz hg)
          clear k0 k1 k2 k3 k4 k5
          obtain ⟨k0, k1, k2, k3, k4, k5⟩ := HA1.out.box
          clear hz hg HA0
          go_wp2_with fail
          refine (right53 bp (n + 1) (orN (!addB n d) false) true _ HA1.out.sz).mono ?_
          rintro e v2 ⟨rfl, hz, hg⟩
          have HA2 := hid (HA1.out.step hB hbp hz hg)
          clear k0 k1 k2 k3 k4 k5
          obtain ⟨k0, k1, k2, k3, k4, k5⟩ := HA2.out.box
          clear hz hg HA1
          go_wp2_with fail
          refine (right53 bp (n + 1) (orN (orN (!addB n d) false) true) s.toList.isEmpty _ HA2.out.sz).mono ?_
          rintro e v3 ⟨rfl, hz, hg⟩
          have HA3 := hid (HA2.out.step hB hbp hz hg)
          clear k0 k1 k2 k3 k4 k5
          obtain ⟨k0, k1, k2, k3, k4, k5⟩ := HA3.out.box
          clear hz hg HA2
          go_wp2_with fail
          refine (right53 bp (n + 1) (orN (orN (orN (!addB n d) false) true) s.toList.isEmpty) f.toList.isEmpty _ HA3.out.sz).mono ?_
          rintro e v4 ⟨rfl, hz, hg⟩
          have HA4 := hid (HA3.out.step hB hbp hz hg)
          clear k0 k1 k2 k3 k4 k5
          obtain ⟨k0, k1, k2, k3, k4, k5⟩ := HA4.out.box
          clear hz hg HA3
          go_wp2_with fail
          have HB : Hid ((orN (orN (orN (orN (!addB n d) false) true) s.toList.isEmpty) f.toList.isEmpty) = !(addB n d && okB ⟨1, kind, nn, s, f, args⟩)) := hid (by simp [orN, okB, arB, namedOf, fieldOf, hcb, HL.out, nmB_false] <;> (try (cases addB n d <;> simp)))
          refine (HD.out (n + 1) (d + 1) _ bp c _ HA4.out.same hB HA4.out.lt (by omega) (by omega) (fun h => addB_use HB.out h) (by omega) (by omega) hl hcm HA4.out.sz).mono ?_
          rintro e v5 hE
          have HE := hid (sz_end HA4.out HB.out hE)
          obtain ⟨rfl, _⟩ := hE
          go_wp2
          go_end0
          exact HE.out
        · have hlb : ((args.length : Int) == 0) = false := beq_eq_false_iff_ne.2 (by omega)
          have HL := hid hlen
          clear hlen
          go_enter Try.func42, Try.ntmps42
          go_wp2_with fail
          clear hsb
          refine (node52 bp n d _ hn0 (by omega) HA.out.sz).mono ?_
          rintro e v0 ⟨rfl, hz, hg⟩
          have HA0 := hid (HA.out.step hB hbp hz hg)
          obtain ⟨k0, k1, k2, k3, k4, k5⟩ := HA0.out.box
          clear hz hg HA
          go_wp2_with fail
          refine (right53 bp (n + 1) (!addB n d) false _ HA0.out.sz).mono ?_
          rintro e v1 ⟨rfl, hz, hg⟩
          have HA1 := hid (HA0.out.step hB hbp hz hg)
          clear k0 k1 k2 k3 k4 k5
          obtain ⟨k0, k1, k2, k3, k4, k5⟩ := HA1.out.box
          clear hz hg HA0
          go_wp2_with fail
          refine (right53 bp (n + 1) (orN (!addB n d) false) false _ HA1.out.sz).mono ?_
          rintro e v2 ⟨rfl, hz, hg⟩
          have HA2 := hid (HA1.out.step hB hbp hz hg)
          clear k0 k1 k2 k3 k4 k5
          obtain ⟨k0, k1, k2, k3, k4, k5⟩ := HA2.out.box
          clear hz hg HA1
          go_wp2_with fail
          refine (right53 bp (n + 1) (orN (orN (!addB n d) false) false) s.toList.isEmpty _ HA2.out.sz).mono ?_
          rintro e v3 ⟨rfl, hz, hg⟩
          have HA3 := hid (HA2.out.step hB hbp hz hg)
          clear k0 k1 k2 k3 k4 k5
          obtain ⟨k0, k1, k2, k3, k4, k5⟩ := HA3.out.box
          clear hz hg HA2
          go_wp2_with fail
          refine (right53 bp (n + 1) (orN (orN (orN (!addB n d) false) false) s.toList.isEmpty) f.toList.isEmpty _ HA3.out.sz).mono ?_
          rintro e v4 ⟨rfl, hz, hg⟩
          have HA4 := hid (HA3.out.step hB hbp hz hg)
          clear k0 k1 k2 k3 k4 k5
          obtain ⟨k0, k1, k2, k3, k4, k5⟩ := HA4.out.box
          clear hz hg HA3
          go_wp2_with fail
          have HB : Hid ((orN (orN (orN (orN (!addB n d) false) false) s.toList.isEmpty) f.toList.isEmpty) = !(addB n d && okB ⟨1, kind, nn, s, f, args⟩)) := hid (by simp [orN, okB, arB, namedOf, fieldOf, hcb, HL.out, nmB_false] <;> (try (cases addB n d <;> simp)))
          refine (HD.out (n + 1) (d + 1) _ bp c _ HA4.out.same hB HA4.out.lt (by omega) (by omega) (fun h => addB_use HB.out h) (by omega) (by omega) hl hcm HA4.out.sz).mono ?_
          rintro e v5 hE
          have HE := hid (sz_end HA4.out HB.out hE)
          obtain ⟨rfl, _⟩ := hE
          go_wp2
          go_end0
          exact HE.out
    · have hcb : constB kind nn = false := by unfold constB; simp; omega
      by_cases hlen : args.length = 0
      · have hlb : ((args.length : Int) == 0) = true := beq_iff_eq.2 (by omega)
        have HL := hid hlen
        clear hlen
        go_enter Try.func42, Try.ntmps42
        go_wp2_with fail
        clear hsb
        refine (node52 bp n d _ hn0 (by omega) HA.out.sz).mono ?_
        rintro e v0 ⟨rfl, hz, hg⟩
        have HA0 := hid (HA.out.step hB hbp hz hg)
        obtain ⟨k0, k1, k2, k3, k4, k5⟩ := HA0.out.box
        clear hz hg HA
        go_wp2_with fail
        refine (right53 bp (n + 1) (!addB n d) false _ HA0.out.sz).mono ?_
        rintro e v1 ⟨rfl, hz, hg⟩
        have HA1 := hid (HA0.out.step hB hbp hz hg)
        clear k0 k1 k2 k3 k4 k5
        obtain ⟨k0, k1, k2, k3, k4, k5⟩ := HA1.out.box
        clear hz hg HA0
        go_wp2_with fail
        refine (right53 bp (n + 1) (orN (!addB n d) false) true _ HA1.out.sz).mono ?_
        rintro e v2 ⟨rfl, hz, hg⟩
        have HA2 := hid (HA1.out.step hB hbp hz hg)
        clear k0 k1 k2 k3 k4 k5
        obtain ⟨k0, k1, k2, k3, k4, k5⟩ := HA2.out.box
        clear hz hg HA1
        go_wp2_with fail
        refine (right53 bp (n + 1) (orN (orN (!addB n d) false) true) s.toList.isEmpty _ HA2.out.sz).mono ?_
        rintro e v3 ⟨rfl, hz, hg⟩
        have HA3 := hid (HA2.out.step hB hbp hz hg)
        clear k0 k1 k2 k3 k4 k5
        obtain ⟨k0, k1, k2, k3, k4, k5⟩ := HA3.out.box
        clear hz hg HA2
        go_wp2_with fail
        refine (right53 bp (n + 1) (orN (orN (orN (!addB n d) false) true) s.toList.isEmpty) f.toList.isEmpty _ HA3.out.sz).mono ?_
        rintro e v4 ⟨rfl, hz, hg⟩
        have HA4 := hid (HA3.out.step hB hbp hz hg)
        clear k0 k1 k2 k3 k4 k5
        obtain ⟨k0, k1, k2, k3, k4, k5⟩ := HA4.out.box
        clear hz hg HA3
        go_wp2_with fail
        have HB : Hid ((orN (orN (orN (orN (!addB n d) false) true) s.toList.isEmpty) f.toList.isEmpty) = !(addB n d && okB ⟨1, kind, nn, s, f, args⟩)) := hid (by simp [orN, okB, arB, namedOf, fieldOf, hcb, HL.out, nmB_false] <;> (try (cases addB n d <;> simp)))
        refine (HD.out (n + 1) (d + 1) _ bp c _ HA4.out.same hB HA4.out.lt (by omega) (by omega) (fun h => addB_use HB.out h) (by omega) (by omega) hl hcm HA4.out.sz).mono ?_
        rintro e v5 hE
        have HE := hid (sz_end HA4.out HB.out hE)
        obtain ⟨rfl, _⟩ := hE
        go_wp2
        go_end0
        exact HE.out
      · have hlb : ((args.length : Int) == 0) = false := beq_eq_false_iff_ne.2 (by omega)
        have HL := hid hlen
        clear hlen
        go_enter Try.func42, Try.ntmps42
        go_wp2_with fail
        clear hsb
        refine (node52 bp n d _ hn0 (by omega) HA.out.sz).mono ?_
        rintro e v0 ⟨rfl, hz, hg⟩
        have HA0 := hid (HA.out.step hB hbp hz hg)
        obtain ⟨k0, k1, k2, k3, k4, k5⟩ := HA0.out.box
        clear hz hg HA
        go_wp2_with fail
        refine (right53 bp (n + 1) (!addB n d) false _ HA0.out.sz).mono ?_
        rintro e v1 ⟨rfl, hz, hg⟩
        have HA1 := hid (HA0.out.step hB hbp hz hg)
        clear k0 k1 k2 k3 k4 k5
        obtain ⟨k0, k1, k2, k3, k4, k5⟩ := HA1.out.box
        clear hz hg HA0
        go_wp2_with fail
        refine (right53 bp (n + 1) (orN (!addB n d) false) false _ HA1.out.sz).mono ?_
        rintro e v2 ⟨rfl, hz, hg⟩
        have HA2 := hid (HA1.out.step hB hbp hz hg)
        clear k0 k1 k2 k3 k4 k5
        obtain ⟨k0, k1, k2, k3, k4, k5⟩ := HA2.out.box
        clear hz hg HA1
        go_wp2_with fail
        refine (right53 bp (n + 1) (orN (orN (!addB n d) false) false) s.toList.isEmpty _ HA2.out.sz).mono ?_
        rintro e v3 ⟨rfl, hz, hg⟩
        have HA3 := hid (HA2.out.step hB hbp hz hg)
        clear k0 k1 k2 k3 k4 k5
        obtain ⟨k0, k1, k2, k3, k4, k5⟩ := HA3.out.box
        clear hz hg HA2
        go_wp2_with fail
        refine (right53 bp (n + 1) (orN (orN (orN (!addB n d) false) false) s.toList.isEmpty) f.toList.isEmpty _ HA3.out.sz).mono ?_
        rintro e v4 ⟨rfl, hz, hg⟩
        have HA4 := hid (HA3.out.step hB hbp hz hg)
        clear k0 k1 k2 k3 k4 k5
        obtain ⟨k0, k1, k2, k3, k4, k5⟩ := HA4.out.box
        clear hz hg HA3
        go_wp2_with fail
        have HB : Hid ((orN (orN (orN (orN (!addB n d) false) false) s.toList.isEmpty) f.toList.isEmpty) = !(addB n d && okB ⟨1, kind, nn, s, f, args⟩)) := hid (by simp [orN, okB, arB, namedOf, fieldOf, hcb, HL.out, nmB_false] <;> (try (cases addB n d <;> simp)))
        refine (HD.out (n + 1) (d + 1) _ bp c _ HA4.out.same hB HA4.out.lt (by omega) (by omega) (fun h => addB_use HB.out h) (by omega) (by omega) hl hcm HA4.out.sz).mono ?_
        rintro e v5 hE
        have HE := hid (sz_end HA4.out HB.out hE)
        obtain ⟨rfl, _⟩ := hE
        go_wp2
        go_end0
        exact HE.out
  · have hcb : constB kind nn = false := by unfold constB; simp; omega
    by_cases hlen : args.length = 0
    · have hlb : ((args.length : Int) == 0) = true := beq_iff_eq.2 (by omega)
      have HL := hid hlen
      clear hlen
      go_enter Try.func42, Try.ntmps42
      go_wp2_with fail
      clear hsb
      refine (node52 bp n d _ hn0 (by omega) HA.out.sz).mono ?_
      rintro e v0 ⟨rfl, hz, hg⟩
      have HA0 := hid (HA.out.step hB hbp hz hg)
      obtain ⟨k0, k1, k2, k3, k4, k5⟩ := HA0.out.box
      clear hz hg HA
      go_wp2_with fail
      refine (right53 bp (n + 1) (!addB n d) false _ HA0.out.sz).mono ?_
      rintro e v1 ⟨rfl, hz, hg⟩
      have HA1 := hid (HA0.out.step hB hbp hz hg)
      clear k0 k1 k2 k3 k4 k5
      obtain ⟨k0, k1, k2, k3, k4, k5⟩ := HA1.out.box
      clear hz hg HA0
      go_wp2_with fail
      refine (right53 bp (n + 1) (orN (!addB n d) false) true _ HA1.out.sz).mono ?_
      rintro e v2 ⟨rfl, hz, hg⟩
      have HA2 := hid (HA1.out.step hB hbp hz hg)
      clear k0 k1 k2 k3 k4 k5
      obtain ⟨k0, k1, k2, k3, k4, k5⟩ := HA2.out.box
      clear hz hg HA1
      go_wp2_with fail
      refine (right53 bp (n + 1) (orN (orN (!addB n d) false) true) s.toList.isEmpty _ HA2.out.sz).mono ?_
      rintro e v3 ⟨rfl, hz, hg⟩
      have HA3 := hid (HA2.out.step hB hbp hz hg)
      clear k0 k1 k2 k3 k4 k5
      obtain ⟨k0, k1, k2, k3, k4, k5⟩ := HA3.out.box
      clear hz hg HA2
      go_wp2_with fail
      refine (right53 bp (n + 1) (orN (orN (orN (!addB n d) false) true) s.toList.isEmpty) f.toList.isEmpty _ HA3.out.sz).mono ?_
      rintro e v4 ⟨rfl, hz, hg⟩
      have HA4 := hid (HA3.out.step hB hbp hz hg)
      clear k0 k1 k2 k3 k4 k5
      obtain ⟨k0, k1, k2, k3, k4, k5⟩ := HA4.out.box
      clear hz hg HA3
      go_wp2_with fail
      have HB : Hid ((orN (orN (orN (orN (!addB n d) false) true) s.toList.isEmpty) f.toList.isEmpty) = !(addB n d && okB ⟨1, kind, nn, s, f, args⟩)) := hid (by simp [orN, okB, arB, namedOf, fieldOf, hcb, HL.out, nmB_false] <;> (try (cases addB n d <;> simp)))
      refine (HD.out (n + 1) (d + 1) _ bp c _ HA4.out.same hB HA4.out.lt (by omega) (by omega) (fun h => addB_use HB.out h) (by omega) (by omega) hl hcm HA4.out.sz).mono ?_
      rintro e v5 hE
      have HE := hid (sz_end HA4.out HB.out hE)
      obtain ⟨rfl, _⟩ := hE
      go_wp2
      go_end0
      exact HE.out
    · have hlb : ((args.length : Int) == 0) = false := beq_eq_false_iff_ne.2 (by omega)
      have HL := hid hlen
      clear hlen
      go_enter Try.func42, Try.ntmps42
      go_wp2_with fail
      clear hsb
      refine (node52 bp n d _ hn0 (by omega) HA.out.sz).mono ?_
      rintro e v0 ⟨rfl, hz, hg⟩
      have HA0 := hid (HA.out.step hB hbp hz hg)
      obtain ⟨k0, k1, k2, k3, k4, k5⟩ := HA0.out.box
      clear hz hg HA
      go_wp2_with fail
      refine (right53 bp (n + 1) (!addB n d) false _ HA0.out.sz).mono ?_
      rintro e v1 ⟨rfl, hz, hg⟩
      have HA1 := hid (HA0.out.step hB hbp hz hg)
      clear k0 k1 k2 k3 k4 k5
      obtain ⟨k0, k1, k2, k3, k4, k5⟩ := HA1.out.box
      clear hz hg HA0
      go_wp2_with fail
      refine (right53 bp (n + 1) (orN (!addB n d) false) false _ HA1.out.sz).mono ?_
      rintro e v2 ⟨rfl, hz, hg⟩
      have HA2 := hid (HA1.out.step hB hbp hz hg)
      clear k0 k1 k2 k3 k4 k5
      obtain ⟨k0, k1, k2, k3, k4, k5⟩ := HA2.out.box
      clear hz hg HA1
      go_wp2_with fail
      refine (right53 bp (n + 1) (orN (orN (!addB n d) false) false) s.toList.isEmpty _ HA2.out.sz).mono ?_
      rintro e v3 ⟨rfl, hz, hg⟩
      have HA3 := hid (HA2.out.step hB hbp hz hg)
      clear k0 k1 k2 k3 k4 k5
      obtain ⟨k0, k1, k2, k3, k4, k5⟩ := HA3.out.box
      clear hz hg HA2
      go_wp2_with fail
      refine (right53 bp (n + 1) (orN (orN (orN (!addB n d) false) false) s.toList.isEmpty) f.toList.isEmpty _ HA3.out.sz).mono ?_
      rintro e v4 ⟨rfl, hz, hg⟩
      have HA4 := hid (HA3.out.step hB hbp hz hg)
      clear k0 k1 k2 k3 k4 k5
      obtain ⟨k0, k1, k2, k3, k4, k5⟩ := HA4.out.box
      clear hz hg HA3
      go_wp2_with fail
      have HB : Hid ((orN (orN (orN (orN (!addB n d) false) false) s.toList.isEmpty) f.toList.isEmpty) = !(addB n d && okB ⟨1, kind, nn, s, f, args⟩)) := hid (by simp [orN, okB, arB, namedOf, fieldOf, hcb, HL.out, nmB_false] <;> (try (cases addB n d <;> simp)))
      refine (HD.out (n + 1) (d + 1) _ bp c _ HA4.out.same hB HA4.out.lt (by omega) (by omega) (fun h => addB_use HB.out h) (by omega) (by omega) hl hcm HA4.out.sz).mono ?_
      rintro e v5 hE
      have HE := hid (sz_end HA4.out HB.out hE)
      obtain ⟨rfl, _⟩ := hE
      go_wp2
      go_end0
      exact HE.out

end Go.Proofs.Ytmkpoaapcghohaa
