/- Contract: the reference's Size.Expr, at some of the operators. -/
import Derived.Test.YtmkpoaapcghohaaSizeA
namespace Go.Proofs.Ytmkpoaapcghohaa
open Go.RowKit
set_option linter.unusedSimpArgs false

set_option maxHeartbeats 8000000 in
set_option maxRecDepth 100000 in
theorem sexpr42_2 (w : World) (B : Nat) (kind nn : Int) (s f : ByteArray) (args : List Ex) (A : Option Addr) (c : Nat) (hs : s.size ≤ maxLen) (hf : f.size ≤ maxLen) (hl : args.length ≤ c) (hcm : c ≤ maxLen) (hd : SzExprsDo w B args A)
    (n d : Int) (bp : Nat) (W : World) (hS : Same B w W) (hB : B ≤ bp) (hbp : bp < W.heap.size) (hn0 : 0 ≤ n) (hn1 : n ≤ 500) (hd0 : 1 ≤ d) (hd1 : d ≤ 15) (hc : Sz W bp n false) :
    Calls Try.prog 42 #[.pointer (some ⟨bp, 0, none⟩), .agg #[.int .i64 2, .int .i64 kind, .int .i64 nn, .string s, .string f, .slice A args.length c], .int .i64 d] W (SzExprSays n d ⟨2, kind, nn, s, f, args⟩ bp W) := by
  have HS := hid hs
  have HF := hid hf
  have HD := hid hd
  have HA := hid (sized_start (op := 2) (kind := kind) (nn := nn) (s := s) (f := f) (args := args) (A := A) (c := c) hS hB hbp hc)
  have hsb : (W.alloc (.cells #[.int .i64 2, .int .i64 kind, .int .i64 nn, .string s, .string f, .slice A args.length c] 49)).cell? ⟨bp, 2, none⟩ = some (.bool false) := HA.out.sz.b
  clear hs hf hd hc hS
  by_cases hlen : args.length = 0
  · have hlb : ((args.length : Int) == 0) = true := beq_iff_eq.2 (by omega)
    have HL := hid hlen
    clear hlen
    by_cases hk : kind = 0
    · subst hk
      cases hqs : nameB s
      · have hnms : nmB s true = false := hqs
        go_enter Try.func42, Try.ntmps42
        go_wp2_with fail
        clear hsb
        refine (node52 bp n d _ hn0 (by omega) HA.out.sz).mono ?_
        rintro e v0 ⟨rfl, hz, hg⟩
        have HA0 := hid (HA.out.step hB hbp hz hg)
        obtain ⟨k0, k1, k2, k3, k4, k5⟩ := HA0.out.box
        clear hz hg HA
        go_wp2_with fail
        refine (right53 bp (n + 1) (!addB n d) (nn == 0) _ HA0.out.sz).mono ?_
        rintro e v1 ⟨rfl, hz, hg⟩
        have HA1 := hid (HA0.out.step hB hbp hz hg)
        clear k0 k1 k2 k3 k4 k5
        obtain ⟨k0, k1, k2, k3, k4, k5⟩ := HA1.out.box
        clear hz hg HA0
        go_wp2_with fail
        refine (name54 s _ HS.out).mono ?_
        rintro e v2 ⟨rfl, hb⟩
        have HA2 := hid (HA1.out.keep hB hbp hb)
        clear k0 k1 k2 k3 k4 k5
        obtain ⟨k0, k1, k2, k3, k4, k5⟩ := HA2.out.box
        clear hb HA1
        go_wp2_with fail
        refine (right53 bp (n + 1) (orN (!addB n d) (nn == 0)) false _ HA2.out.sz).mono ?_
        rintro e v3 ⟨rfl, hz, hg⟩
        have HA3 := hid (HA2.out.step hB hbp hz hg)
        clear k0 k1 k2 k3 k4 k5
        obtain ⟨k0, k1, k2, k3, k4, k5⟩ := HA3.out.box
        clear hz hg HA2
        go_wp2_with fail
        refine (right53 bp (n + 1) (orN (orN (!addB n d) (nn == 0)) false) f.toList.isEmpty _ HA3.out.sz).mono ?_
        rintro e v4 ⟨rfl, hz, hg⟩
        have HA4 := hid (HA3.out.step hB hbp hz hg)
        clear k0 k1 k2 k3 k4 k5
        obtain ⟨k0, k1, k2, k3, k4, k5⟩ := HA4.out.box
        clear hz hg HA3
        go_wp2_with fail
        have HB : Hid ((orN (orN (orN (!addB n d) (nn == 0)) false) f.toList.isEmpty) = !(addB n d && okB ⟨2, 0, nn, s, f, args⟩)) := hid (by simp [orN, okB, arB, namedOf, fieldOf, HL.out, hnms, nmB_false] <;> (try (cases addB n d <;> simp)))
        refine (HD.out (n + 1) (d + 1) _ bp c _ HA4.out.same hB HA4.out.lt (by omega) (by omega) (fun h => addB_use HB.out h) (by omega) (by omega) hl hcm HA4.out.sz).mono ?_
        rintro e v5 hE
        have HE := hid (sz_end HA4.out HB.out hE)
        obtain ⟨rfl, _⟩ := hE
        go_wp2
        go_end0
        exact HE.out
      · have hnms : nmB s true = true := hqs
        go_enter Try.func42, Try.ntmps42
        go_wp2_with fail
        clear hsb
        refine (node52 bp n d _ hn0 (by omega) HA.out.sz).mono ?_
        rintro e v0 ⟨rfl, hz, hg⟩
        have HA0 := hid (HA.out.step hB hbp hz hg)
        obtain ⟨k0, k1, k2, k3, k4, k5⟩ := HA0.out.box
        clear hz hg HA
        go_wp2_with fail
        refine (right53 bp (n + 1) (!addB n d) (nn == 0) _ HA0.out.sz).mono ?_
        rintro e v1 ⟨rfl, hz, hg⟩
        have HA1 := hid (HA0.out.step hB hbp hz hg)
        clear k0 k1 k2 k3 k4 k5
        obtain ⟨k0, k1, k2, k3, k4, k5⟩ := HA1.out.box
        clear hz hg HA0
        go_wp2_with fail
        refine (name54 s _ HS.out).mono ?_
        rintro e v2 ⟨rfl, hb⟩
        have HA2 := hid (HA1.out.keep hB hbp hb)
        clear k0 k1 k2 k3 k4 k5
        obtain ⟨k0, k1, k2, k3, k4, k5⟩ := HA2.out.box
        clear hb HA1
        go_wp2_with fail
        refine (right53 bp (n + 1) (orN (!addB n d) (nn == 0)) true _ HA2.out.sz).mono ?_
        rintro e v3 ⟨rfl, hz, hg⟩
        have HA3 := hid (HA2.out.step hB hbp hz hg)
        clear k0 k1 k2 k3 k4 k5
        obtain ⟨k0, k1, k2, k3, k4, k5⟩ := HA3.out.box
        clear hz hg HA2
        go_wp2_with fail
        refine (right53 bp (n + 1) (orN (orN (!addB n d) (nn == 0)) true) f.toList.isEmpty _ HA3.out.sz).mono ?_
        rintro e v4 ⟨rfl, hz, hg⟩
        have HA4 := hid (HA3.out.step hB hbp hz hg)
        clear k0 k1 k2 k3 k4 k5
        obtain ⟨k0, k1, k2, k3, k4, k5⟩ := HA4.out.box
        clear hz hg HA3
        go_wp2_with fail
        have HB : Hid ((orN (orN (orN (!addB n d) (nn == 0)) true) f.toList.isEmpty) = !(addB n d && okB ⟨2, 0, nn, s, f, args⟩)) := hid (by simp [orN, okB, arB, namedOf, fieldOf, HL.out, hnms, nmB_false] <;> (try (cases addB n d <;> simp)))
        refine (HD.out (n + 1) (d + 1) _ bp c _ HA4.out.same hB HA4.out.lt (by omega) (by omega) (fun h => addB_use HB.out h) (by omega) (by omega) hl hcm HA4.out.sz).mono ?_
        rintro e v5 hE
        have HE := hid (sz_end HA4.out HB.out hE)
        obtain ⟨rfl, _⟩ := hE
        go_wp2
        go_end0
        exact HE.out
    · have hkb : (kind == 0) = false := beq_eq_false_iff_ne.2 hk
      cases hqs : nameB s
      · have hnms : nmB s true = false := hqs
        go_enter Try.func42, Try.ntmps42
        go_wp2_with fail
        clear hsb
        refine (node52 bp n d _ hn0 (by omega) HA.out.sz).mono ?_
        rintro e v0 ⟨rfl, hz, hg⟩
        have HA0 := hid (HA.out.step hB hbp hz hg)
        obtain ⟨k0, k1, k2, k3, k4, k5⟩ := HA0.out.box
        clear hz hg HA
        go_wp2_with fail
        refine (right53 bp (n + 1) (!addB n d) false _ HA0.out.sz).mono ?_
        rintro e v1 ⟨rfl, hz, hg⟩
        have HA1 := hid (HA0.out.step hB hbp hz hg)
        clear k0 k1 k2 k3 k4 k5
        obtain ⟨k0, k1, k2, k3, k4, k5⟩ := HA1.out.box
        clear hz hg HA0
        go_wp2_with fail
        refine (name54 s _ HS.out).mono ?_
        rintro e v2 ⟨rfl, hb⟩
        have HA2 := hid (HA1.out.keep hB hbp hb)
        clear k0 k1 k2 k3 k4 k5
        obtain ⟨k0, k1, k2, k3, k4, k5⟩ := HA2.out.box
        clear hb HA1
        go_wp2_with fail
        refine (right53 bp (n + 1) (orN (!addB n d) false) false _ HA2.out.sz).mono ?_
        rintro e v3 ⟨rfl, hz, hg⟩
        have HA3 := hid (HA2.out.step hB hbp hz hg)
        clear k0 k1 k2 k3 k4 k5
        obtain ⟨k0, k1, k2, k3, k4, k5⟩ := HA3.out.box
        clear hz hg HA2
        go_wp2_with fail
        refine (right53 bp (n + 1) (orN (orN (!addB n d) false) false) f.toList.isEmpty _ HA3.out.sz).mono ?_
        rintro e v4 ⟨rfl, hz, hg⟩
        have HA4 := hid (HA3.out.step hB hbp hz hg)
        clear k0 k1 k2 k3 k4 k5
        obtain ⟨k0, k1, k2, k3, k4, k5⟩ := HA4.out.box
        clear hz hg HA3
        go_wp2_with fail
        have HB : Hid ((orN (orN (orN (!addB n d) false) false) f.toList.isEmpty) = !(addB n d && okB ⟨2, kind, nn, s, f, args⟩)) := hid (by simp [orN, okB, arB, namedOf, fieldOf, HL.out, hk, hnms, nmB_false] <;> (try (cases addB n d <;> simp)))
        refine (HD.out (n + 1) (d + 1) _ bp c _ HA4.out.same hB HA4.out.lt (by omega) (by omega) (fun h => addB_use HB.out h) (by omega) (by omega) hl hcm HA4.out.sz).mono ?_
        rintro e v5 hE
        have HE := hid (sz_end HA4.out HB.out hE)
        obtain ⟨rfl, _⟩ := hE
        go_wp2
        go_end0
        exact HE.out
      · have hnms : nmB s true = true := hqs
        go_enter Try.func42, Try.ntmps42
        go_wp2_with fail
        clear hsb
        refine (node52 bp n d _ hn0 (by omega) HA.out.sz).mono ?_
        rintro e v0 ⟨rfl, hz, hg⟩
        have HA0 := hid (HA.out.step hB hbp hz hg)
        obtain ⟨k0, k1, k2, k3, k4, k5⟩ := HA0.out.box
        clear hz hg HA
        go_wp2_with fail
        refine (right53 bp (n + 1) (!addB n d) false _ HA0.out.sz).mono ?_
        rintro e v1 ⟨rfl, hz, hg⟩
        have HA1 := hid (HA0.out.step hB hbp hz hg)
        clear k0 k1 k2 k3 k4 k5
        obtain ⟨k0, k1, k2, k3, k4, k5⟩ := HA1.out.box
        clear hz hg HA0
        go_wp2_with fail
        refine (name54 s _ HS.out).mono ?_
        rintro e v2 ⟨rfl, hb⟩
        have HA2 := hid (HA1.out.keep hB hbp hb)
        clear k0 k1 k2 k3 k4 k5
        obtain ⟨k0, k1, k2, k3, k4, k5⟩ := HA2.out.box
        clear hb HA1
        go_wp2_with fail
        refine (right53 bp (n + 1) (orN (!addB n d) false) true _ HA2.out.sz).mono ?_
        rintro e v3 ⟨rfl, hz, hg⟩
        have HA3 := hid (HA2.out.step hB hbp hz hg)
        clear k0 k1 k2 k3 k4 k5
        obtain ⟨k0, k1, k2, k3, k4, k5⟩ := HA3.out.box
        clear hz hg HA2
        go_wp2_with fail
        refine (right53 bp (n + 1) (orN (orN (!addB n d) false) true) f.toList.isEmpty _ HA3.out.sz).mono ?_
        rintro e v4 ⟨rfl, hz, hg⟩
        have HA4 := hid (HA3.out.step hB hbp hz hg)
        clear k0 k1 k2 k3 k4 k5
        obtain ⟨k0, k1, k2, k3, k4, k5⟩ := HA4.out.box
        clear hz hg HA3
        go_wp2_with fail
        have HB : Hid ((orN (orN (orN (!addB n d) false) true) f.toList.isEmpty) = !(addB n d && okB ⟨2, kind, nn, s, f, args⟩)) := hid (by simp [orN, okB, arB, namedOf, fieldOf, HL.out, hk, hnms, nmB_false] <;> (try (cases addB n d <;> simp)))
        refine (HD.out (n + 1) (d + 1) _ bp c _ HA4.out.same hB HA4.out.lt (by omega) (by omega) (fun h => addB_use HB.out h) (by omega) (by omega) hl hcm HA4.out.sz).mono ?_
        rintro e v5 hE
        have HE := hid (sz_end HA4.out HB.out hE)
        obtain ⟨rfl, _⟩ := hE
        go_wp2
        go_end0
        exact HE.out
  · have hlb : ((args.length : Int) == 0) = false := beq_eq_false_iff_ne.2 (by omega)
    have HL := hid hlen
    clear hlen
    cases hqs : nameB s
    · have hnms : nmB s true = false := hqs
      go_enter Try.func42, Try.ntmps42
      go_wp2_with fail
      clear hsb
      refine (node52 bp n d _ hn0 (by omega) HA.out.sz).mono ?_
      rintro e v0 ⟨rfl, hz, hg⟩
      have HA0 := hid (HA.out.step hB hbp hz hg)
      obtain ⟨k0, k1, k2, k3, k4, k5⟩ := HA0.out.box
      clear hz hg HA
      go_wp2_with fail
      refine (right53 bp (n + 1) (!addB n d) false _ HA0.out.sz).mono ?_
      rintro e v1 ⟨rfl, hz, hg⟩
      have HA1 := hid (HA0.out.step hB hbp hz hg)
      clear k0 k1 k2 k3 k4 k5
      obtain ⟨k0, k1, k2, k3, k4, k5⟩ := HA1.out.box
      clear hz hg HA0
      go_wp2_with fail
      refine (name54 s _ HS.out).mono ?_
      rintro e v2 ⟨rfl, hb⟩
      have HA2 := hid (HA1.out.keep hB hbp hb)
      clear k0 k1 k2 k3 k4 k5
      obtain ⟨k0, k1, k2, k3, k4, k5⟩ := HA2.out.box
      clear hb HA1
      go_wp2_with fail
      refine (right53 bp (n + 1) (orN (!addB n d) false) false _ HA2.out.sz).mono ?_
      rintro e v3 ⟨rfl, hz, hg⟩
      have HA3 := hid (HA2.out.step hB hbp hz hg)
      clear k0 k1 k2 k3 k4 k5
      obtain ⟨k0, k1, k2, k3, k4, k5⟩ := HA3.out.box
      clear hz hg HA2
      go_wp2_with fail
      refine (right53 bp (n + 1) (orN (orN (!addB n d) false) false) f.toList.isEmpty _ HA3.out.sz).mono ?_
      rintro e v4 ⟨rfl, hz, hg⟩
      have HA4 := hid (HA3.out.step hB hbp hz hg)
      clear k0 k1 k2 k3 k4 k5
      obtain ⟨k0, k1, k2, k3, k4, k5⟩ := HA4.out.box
      clear hz hg HA3
      go_wp2_with fail
      have HB : Hid ((orN (orN (orN (!addB n d) false) false) f.toList.isEmpty) = !(addB n d && okB ⟨2, kind, nn, s, f, args⟩)) := hid (by simp [orN, okB, arB, namedOf, fieldOf, HL.out, hnms, nmB_false] <;> (try (cases addB n d <;> simp)))
      refine (HD.out (n + 1) (d + 1) _ bp c _ HA4.out.same hB HA4.out.lt (by omega) (by omega) (fun h => addB_use HB.out h) (by omega) (by omega) hl hcm HA4.out.sz).mono ?_
      rintro e v5 hE
      have HE := hid (sz_end HA4.out HB.out hE)
      obtain ⟨rfl, _⟩ := hE
      go_wp2
      go_end0
      exact HE.out
    · have hnms : nmB s true = true := hqs
      go_enter Try.func42, Try.ntmps42
      go_wp2_with fail
      clear hsb
      refine (node52 bp n d _ hn0 (by omega) HA.out.sz).mono ?_
      rintro e v0 ⟨rfl, hz, hg⟩
      have HA0 := hid (HA.out.step hB hbp hz hg)
      obtain ⟨k0, k1, k2, k3, k4, k5⟩ := HA0.out.box
      clear hz hg HA
      go_wp2_with fail
      refine (right53 bp (n + 1) (!addB n d) false _ HA0.out.sz).mono ?_
      rintro e v1 ⟨rfl, hz, hg⟩
      have HA1 := hid (HA0.out.step hB hbp hz hg)
      clear k0 k1 k2 k3 k4 k5
      obtain ⟨k0, k1, k2, k3, k4, k5⟩ := HA1.out.box
      clear hz hg HA0
      go_wp2_with fail
      refine (name54 s _ HS.out).mono ?_
      rintro e v2 ⟨rfl, hb⟩
      have HA2 := hid (HA1.out.keep hB hbp hb)
      clear k0 k1 k2 k3 k4 k5
      obtain ⟨k0, k1, k2, k3, k4, k5⟩ := HA2.out.box
      clear hb HA1
      go_wp2_with fail
      refine (right53 bp (n + 1) (orN (!addB n d) false) true _ HA2.out.sz).mono ?_
      rintro e v3 ⟨rfl, hz, hg⟩
      have HA3 := hid (HA2.out.step hB hbp hz hg)
      clear k0 k1 k2 k3 k4 k5
      obtain ⟨k0, k1, k2, k3, k4, k5⟩ := HA3.out.box
      clear hz hg HA2
      go_wp2_with fail
      refine (right53 bp (n + 1) (orN (orN (!addB n d) false) true) f.toList.isEmpty _ HA3.out.sz).mono ?_
      rintro e v4 ⟨rfl, hz, hg⟩
      have HA4 := hid (HA3.out.step hB hbp hz hg)
      clear k0 k1 k2 k3 k4 k5
      obtain ⟨k0, k1, k2, k3, k4, k5⟩ := HA4.out.box
      clear hz hg HA3
      go_wp2_with fail
      have HB : Hid ((orN (orN (orN (!addB n d) false) true) f.toList.isEmpty) = !(addB n d && okB ⟨2, kind, nn, s, f, args⟩)) := hid (by simp [orN, okB, arB, namedOf, fieldOf, HL.out, hnms, nmB_false] <;> (try (cases addB n d <;> simp)))
      refine (HD.out (n + 1) (d + 1) _ bp c _ HA4.out.same hB HA4.out.lt (by omega) (by omega) (fun h => addB_use HB.out h) (by omega) (by omega) hl hcm HA4.out.sz).mono ?_
      rintro e v5 hE
      have HE := hid (sz_end HA4.out HB.out hE)
      obtain ⟨rfl, _⟩ := hE
      go_wp2
      go_end0
      exact HE.out

set_option maxHeartbeats 8000000 in
set_option maxRecDepth 100000 in
theorem sexpr42_4 (w : World) (B : Nat) (kind nn : Int) (s f : ByteArray) (args : List Ex) (A : Option Addr) (c : Nat) (hs : s.size ≤ maxLen) (hf : f.size ≤ maxLen) (hl : args.length ≤ c) (hcm : c ≤ maxLen) (hd : SzExprsDo w B args A)
    (n d : Int) (bp : Nat) (W : World) (hS : Same B w W) (hB : B ≤ bp) (hbp : bp < W.heap.size) (hn0 : 0 ≤ n) (hn1 : n ≤ 500) (hd0 : 1 ≤ d) (hd1 : d ≤ 15) (hc : Sz W bp n false) :
    Calls Try.prog 42 #[.pointer (some ⟨bp, 0, none⟩), .agg #[.int .i64 4, .int .i64 kind, .int .i64 nn, .string s, .string f, .slice A args.length c], .int .i64 d] W (SzExprSays n d ⟨4, kind, nn, s, f, args⟩ bp W) := by
  have HS := hid hs
  have HF := hid hf
  have HD := hid hd
  have HA := hid (sized_start (op := 4) (kind := kind) (nn := nn) (s := s) (f := f) (args := args) (A := A) (c := c) hS hB hbp hc)
  have hsb : (W.alloc (.cells #[.int .i64 4, .int .i64 kind, .int .i64 nn, .string s, .string f, .slice A args.length c] 49)).cell? ⟨bp, 2, none⟩ = some (.bool false) := HA.out.sz.b
  clear hs hf hd hc hS
  by_cases hlen : args.length = 1
  · have hlb : ((args.length : Int) == 1) = true := beq_iff_eq.2 (by omega)
    have HL := hid hlen
    clear hlen
    by_cases hk : kind = 0
    · subst hk
      cases hqs : nameB s
      · have hnms : nmB s true = false := hqs
        go_enter Try.func42, Try.ntmps42
        go_wp2_with fail
        clear hsb
        refine (node52 bp n d _ hn0 (by omega) HA.out.sz).mono ?_
        rintro e v0 ⟨rfl, hz, hg⟩
        have HA0 := hid (HA.out.step hB hbp hz hg)
        obtain ⟨k0, k1, k2, k3, k4, k5⟩ := HA0.out.box
        clear hz hg HA
        go_wp2_with fail
        refine (right53 bp (n + 1) (!addB n d) (nn == 0) _ HA0.out.sz).mono ?_
        rintro e v1 ⟨rfl, hz, hg⟩
        have HA1 := hid (HA0.out.step hB hbp hz hg)
        clear k0 k1 k2 k3 k4 k5
        obtain ⟨k0, k1, k2, k3, k4, k5⟩ := HA1.out.box
        clear hz hg HA0
        go_wp2_with fail
        refine (name54 s _ HS.out).mono ?_
        rintro e v2 ⟨rfl, hb⟩
        have HA2 := hid (HA1.out.keep hB hbp hb)
        clear k0 k1 k2 k3 k4 k5
        obtain ⟨k0, k1, k2, k3, k4, k5⟩ := HA2.out.box
        clear hb HA1
        go_wp2_with fail
        refine (right53 bp (n + 1) (orN (!addB n d) (nn == 0)) false _ HA2.out.sz).mono ?_
        rintro e v3 ⟨rfl, hz, hg⟩
        have HA3 := hid (HA2.out.step hB hbp hz hg)
        clear k0 k1 k2 k3 k4 k5
        obtain ⟨k0, k1, k2, k3, k4, k5⟩ := HA3.out.box
        clear hz hg HA2
        go_wp2_with fail
        refine (right53 bp (n + 1) (orN (orN (!addB n d) (nn == 0)) false) f.toList.isEmpty _ HA3.out.sz).mono ?_
        rintro e v4 ⟨rfl, hz, hg⟩
        have HA4 := hid (HA3.out.step hB hbp hz hg)
        clear k0 k1 k2 k3 k4 k5
        obtain ⟨k0, k1, k2, k3, k4, k5⟩ := HA4.out.box
        clear hz hg HA3
        go_wp2_with fail
        have HB : Hid ((orN (orN (orN (!addB n d) (nn == 0)) false) f.toList.isEmpty) = !(addB n d && okB ⟨4, 0, nn, s, f, args⟩)) := hid (by simp [orN, okB, arB, namedOf, fieldOf, HL.out, hnms, nmB_false] <;> (try (cases addB n d <;> simp)))
        refine (HD.out (n + 1) (d + 1) _ bp c _ HA4.out.same hB HA4.out.lt (by omega) (by omega) (fun h => addB_use HB.out h) (by omega) (by omega) hl hcm HA4.out.sz).mono ?_
        rintro e v5 hE
        have HE := hid (sz_end HA4.out HB.out hE)
        obtain ⟨rfl, _⟩ := hE
        go_wp2
        go_end0
        exact HE.out
      · have hnms : nmB s true = true := hqs
        go_enter Try.func42, Try.ntmps42
        go_wp2_with fail
        clear hsb
        refine (node52 bp n d _ hn0 (by omega) HA.out.sz).mono ?_
        rintro e v0 ⟨rfl, hz, hg⟩
        have HA0 := hid (HA.out.step hB hbp hz hg)
        obtain ⟨k0, k1, k2, k3, k4, k5⟩ := HA0.out.box
        clear hz hg HA
        go_wp2_with fail
        refine (right53 bp (n + 1) (!addB n d) (nn == 0) _ HA0.out.sz).mono ?_
        rintro e v1 ⟨rfl, hz, hg⟩
        have HA1 := hid (HA0.out.step hB hbp hz hg)
        clear k0 k1 k2 k3 k4 k5
        obtain ⟨k0, k1, k2, k3, k4, k5⟩ := HA1.out.box
        clear hz hg HA0
        go_wp2_with fail
        refine (name54 s _ HS.out).mono ?_
        rintro e v2 ⟨rfl, hb⟩
        have HA2 := hid (HA1.out.keep hB hbp hb)
        clear k0 k1 k2 k3 k4 k5
        obtain ⟨k0, k1, k2, k3, k4, k5⟩ := HA2.out.box
        clear hb HA1
        go_wp2_with fail
        refine (right53 bp (n + 1) (orN (!addB n d) (nn == 0)) true _ HA2.out.sz).mono ?_
        rintro e v3 ⟨rfl, hz, hg⟩
        have HA3 := hid (HA2.out.step hB hbp hz hg)
        clear k0 k1 k2 k3 k4 k5
        obtain ⟨k0, k1, k2, k3, k4, k5⟩ := HA3.out.box
        clear hz hg HA2
        go_wp2_with fail
        refine (right53 bp (n + 1) (orN (orN (!addB n d) (nn == 0)) true) f.toList.isEmpty _ HA3.out.sz).mono ?_
        rintro e v4 ⟨rfl, hz, hg⟩
        have HA4 := hid (HA3.out.step hB hbp hz hg)
        clear k0 k1 k2 k3 k4 k5
        obtain ⟨k0, k1, k2, k3, k4, k5⟩ := HA4.out.box
        clear hz hg HA3
        go_wp2_with fail
        have HB : Hid ((orN (orN (orN (!addB n d) (nn == 0)) true) f.toList.isEmpty) = !(addB n d && okB ⟨4, 0, nn, s, f, args⟩)) := hid (by simp [orN, okB, arB, namedOf, fieldOf, HL.out, hnms, nmB_false] <;> (try (cases addB n d <;> simp)))
        refine (HD.out (n + 1) (d + 1) _ bp c _ HA4.out.same hB HA4.out.lt (by omega) (by omega) (fun h => addB_use HB.out h) (by omega) (by omega) hl hcm HA4.out.sz).mono ?_
        rintro e v5 hE
        have HE := hid (sz_end HA4.out HB.out hE)
        obtain ⟨rfl, _⟩ := hE
        go_wp2
        go_end0
        exact HE.out
    · have hkb : (kind == 0) = false := beq_eq_false_iff_ne.2 hk
      cases hqs : nameB s
      · have hnms : nmB s true = false := hqs
        go_enter Try.func42, Try.ntmps42
        go_wp2_with fail
        clear hsb
        refine (node52 bp n d _ hn0 (by omega) HA.out.sz).mono ?_
        rintro e v0 ⟨rfl, hz, hg⟩
        have HA0 := hid (HA.out.step hB hbp hz hg)
        obtain ⟨k0, k1, k2, k3, k4, k5⟩ := HA0.out.box
        clear hz hg HA
        go_wp2_with fail
        refine (right53 bp (n + 1) (!addB n d) false _ HA0.out.sz).mono ?_
        rintro e v1 ⟨rfl, hz, hg⟩
        have HA1 := hid (HA0.out.step hB hbp hz hg)
        clear k0 k1 k2 k3 k4 k5
        obtain ⟨k0, k1, k2, k3, k4, k5⟩ := HA1.out.box
        clear hz hg HA0
        go_wp2_with fail
        refine (name54 s _ HS.out).mono ?_
        rintro e v2 ⟨rfl, hb⟩
        have HA2 := hid (HA1.out.keep hB hbp hb)
        clear k0 k1 k2 k3 k4 k5
        obtain ⟨k0, k1, k2, k3, k4, k5⟩ := HA2.out.box
        clear hb HA1
        go_wp2_with fail
        refine (right53 bp (n + 1) (orN (!addB n d) false) false _ HA2.out.sz).mono ?_
        rintro e v3 ⟨rfl, hz, hg⟩
        have HA3 := hid (HA2.out.step hB hbp hz hg)
        clear k0 k1 k2 k3 k4 k5
        obtain ⟨k0, k1, k2, k3, k4, k5⟩ := HA3.out.box
        clear hz hg HA2
        go_wp2_with fail
        refine (right53 bp (n + 1) (orN (orN (!addB n d) false) false) f.toList.isEmpty _ HA3.out.sz).mono ?_
        rintro e v4 ⟨rfl, hz, hg⟩
        have HA4 := hid (HA3.out.step hB hbp hz hg)
        clear k0 k1 k2 k3 k4 k5
        obtain ⟨k0, k1, k2, k3, k4, k5⟩ := HA4.out.box
        clear hz hg HA3
        go_wp2_with fail
        have HB : Hid ((orN (orN (orN (!addB n d) false) false) f.toList.isEmpty) = !(addB n d && okB ⟨4, kind, nn, s, f, args⟩)) := hid (by simp [orN, okB, arB, namedOf, fieldOf, HL.out, hk, hnms, nmB_false] <;> (try (cases addB n d <;> simp)))
        refine (HD.out (n + 1) (d + 1) _ bp c _ HA4.out.same hB HA4.out.lt (by omega) (by omega) (fun h => addB_use HB.out h) (by omega) (by omega) hl hcm HA4.out.sz).mono ?_
        rintro e v5 hE
        have HE := hid (sz_end HA4.out HB.out hE)
        obtain ⟨rfl, _⟩ := hE
        go_wp2
        go_end0
        exact HE.out
      · have hnms : nmB s true = true := hqs
        go_enter Try.func42, Try.ntmps42
        go_wp2_with fail
        clear hsb
        refine (node52 bp n d _ hn0 (by omega) HA.out.sz).mono ?_
        rintro e v0 ⟨rfl, hz, hg⟩
        have HA0 := hid (HA.out.step hB hbp hz hg)
        obtain ⟨k0, k1, k2, k3, k4, k5⟩ := HA0.out.box
        clear hz hg HA
        go_wp2_with fail
        refine (right53 bp (n + 1) (!addB n d) false _ HA0.out.sz).mono ?_
        rintro e v1 ⟨rfl, hz, hg⟩
        have HA1 := hid (HA0.out.step hB hbp hz hg)
        clear k0 k1 k2 k3 k4 k5
        obtain ⟨k0, k1, k2, k3, k4, k5⟩ := HA1.out.box
        clear hz hg HA0
        go_wp2_with fail
        refine (name54 s _ HS.out).mono ?_
        rintro e v2 ⟨rfl, hb⟩
        have HA2 := hid (HA1.out.keep hB hbp hb)
        clear k0 k1 k2 k3 k4 k5
        obtain ⟨k0, k1, k2, k3, k4, k5⟩ := HA2.out.box
        clear hb HA1
        go_wp2_with fail
        refine (right53 bp (n + 1) (orN (!addB n d) false) true _ HA2.out.sz).mono ?_
        rintro e v3 ⟨rfl, hz, hg⟩
        have HA3 := hid (HA2.out.step hB hbp hz hg)
        clear k0 k1 k2 k3 k4 k5
        obtain ⟨k0, k1, k2, k3, k4, k5⟩ := HA3.out.box
        clear hz hg HA2
        go_wp2_with fail
        refine (right53 bp (n + 1) (orN (orN (!addB n d) false) true) f.toList.isEmpty _ HA3.out.sz).mono ?_
        rintro e v4 ⟨rfl, hz, hg⟩
        have HA4 := hid (HA3.out.step hB hbp hz hg)
        clear k0 k1 k2 k3 k4 k5
        obtain ⟨k0, k1, k2, k3, k4, k5⟩ := HA4.out.box
        clear hz hg HA3
        go_wp2_with fail
        have HB : Hid ((orN (orN (orN (!addB n d) false) true) f.toList.isEmpty) = !(addB n d && okB ⟨4, kind, nn, s, f, args⟩)) := hid (by simp [orN, okB, arB, namedOf, fieldOf, HL.out, hk, hnms, nmB_false] <;> (try (cases addB n d <;> simp)))
        refine (HD.out (n + 1) (d + 1) _ bp c _ HA4.out.same hB HA4.out.lt (by omega) (by omega) (fun h => addB_use HB.out h) (by omega) (by omega) hl hcm HA4.out.sz).mono ?_
        rintro e v5 hE
        have HE := hid (sz_end HA4.out HB.out hE)
        obtain ⟨rfl, _⟩ := hE
        go_wp2
        go_end0
        exact HE.out
  · have hlb : ((args.length : Int) == 1) = false := beq_eq_false_iff_ne.2 (by omega)
    have HL := hid hlen
    clear hlen
    cases hqs : nameB s
    · have hnms : nmB s true = false := hqs
      go_enter Try.func42, Try.ntmps42
      go_wp2_with fail
      clear hsb
      refine (node52 bp n d _ hn0 (by omega) HA.out.sz).mono ?_
      rintro e v0 ⟨rfl, hz, hg⟩
      have HA0 := hid (HA.out.step hB hbp hz hg)
      obtain ⟨k0, k1, k2, k3, k4, k5⟩ := HA0.out.box
      clear hz hg HA
      go_wp2_with fail
      refine (right53 bp (n + 1) (!addB n d) false _ HA0.out.sz).mono ?_
      rintro e v1 ⟨rfl, hz, hg⟩
      have HA1 := hid (HA0.out.step hB hbp hz hg)
      clear k0 k1 k2 k3 k4 k5
      obtain ⟨k0, k1, k2, k3, k4, k5⟩ := HA1.out.box
      clear hz hg HA0
      go_wp2_with fail
      refine (name54 s _ HS.out).mono ?_
      rintro e v2 ⟨rfl, hb⟩
      have HA2 := hid (HA1.out.keep hB hbp hb)
      clear k0 k1 k2 k3 k4 k5
      obtain ⟨k0, k1, k2, k3, k4, k5⟩ := HA2.out.box
      clear hb HA1
      go_wp2_with fail
      refine (right53 bp (n + 1) (orN (!addB n d) false) false _ HA2.out.sz).mono ?_
      rintro e v3 ⟨rfl, hz, hg⟩
      have HA3 := hid (HA2.out.step hB hbp hz hg)
      clear k0 k1 k2 k3 k4 k5
      obtain ⟨k0, k1, k2, k3, k4, k5⟩ := HA3.out.box
      clear hz hg HA2
      go_wp2_with fail
      refine (right53 bp (n + 1) (orN (orN (!addB n d) false) false) f.toList.isEmpty _ HA3.out.sz).mono ?_
      rintro e v4 ⟨rfl, hz, hg⟩
      have HA4 := hid (HA3.out.step hB hbp hz hg)
      clear k0 k1 k2 k3 k4 k5
      obtain ⟨k0, k1, k2, k3, k4, k5⟩ := HA4.out.box
      clear hz hg HA3
      go_wp2_with fail
      have HB : Hid ((orN (orN (orN (!addB n d) false) false) f.toList.isEmpty) = !(addB n d && okB ⟨4, kind, nn, s, f, args⟩)) := hid (by simp [orN, okB, arB, namedOf, fieldOf, HL.out, hnms, nmB_false] <;> (try (cases addB n d <;> simp)))
      refine (HD.out (n + 1) (d + 1) _ bp c _ HA4.out.same hB HA4.out.lt (by omega) (by omega) (fun h => addB_use HB.out h) (by omega) (by omega) hl hcm HA4.out.sz).mono ?_
      rintro e v5 hE
      have HE := hid (sz_end HA4.out HB.out hE)
      obtain ⟨rfl, _⟩ := hE
      go_wp2
      go_end0
      exact HE.out
    · have hnms : nmB s true = true := hqs
      go_enter Try.func42, Try.ntmps42
      go_wp2_with fail
      clear hsb
      refine (node52 bp n d _ hn0 (by omega) HA.out.sz).mono ?_
      rintro e v0 ⟨rfl, hz, hg⟩
      have HA0 := hid (HA.out.step hB hbp hz hg)
      obtain ⟨k0, k1, k2, k3, k4, k5⟩ := HA0.out.box
      clear hz hg HA
      go_wp2_with fail
      refine (right53 bp (n + 1) (!addB n d) false _ HA0.out.sz).mono ?_
      rintro e v1 ⟨rfl, hz, hg⟩
      have HA1 := hid (HA0.out.step hB hbp hz hg)
      clear k0 k1 k2 k3 k4 k5
      obtain ⟨k0, k1, k2, k3, k4, k5⟩ := HA1.out.box
      clear hz hg HA0
      go_wp2_with fail
      refine (name54 s _ HS.out).mono ?_
      rintro e v2 ⟨rfl, hb⟩
      have HA2 := hid (HA1.out.keep hB hbp hb)
      clear k0 k1 k2 k3 k4 k5
      obtain ⟨k0, k1, k2, k3, k4, k5⟩ := HA2.out.box
      clear hb HA1
      go_wp2_with fail
      refine (right53 bp (n + 1) (orN (!addB n d) false) true _ HA2.out.sz).mono ?_
      rintro e v3 ⟨rfl, hz, hg⟩
      have HA3 := hid (HA2.out.step hB hbp hz hg)
      clear k0 k1 k2 k3 k4 k5
      obtain ⟨k0, k1, k2, k3, k4, k5⟩ := HA3.out.box
      clear hz hg HA2
      go_wp2_with fail
      refine (right53 bp (n + 1) (orN (orN (!addB n d) false) true) f.toList.isEmpty _ HA3.out.sz).mono ?_
      rintro e v4 ⟨rfl, hz, hg⟩
      have HA4 := hid (HA3.out.step hB hbp hz hg)
      clear k0 k1 k2 k3 k4 k5
      obtain ⟨k0, k1, k2, k3, k4, k5⟩ := HA4.out.box
      clear hz hg HA3
      go_wp2_with fail
      have HB : Hid ((orN (orN (orN (!addB n d) false) true) f.toList.isEmpty) = !(addB n d && okB ⟨4, kind, nn, s, f, args⟩)) := hid (by simp [orN, okB, arB, namedOf, fieldOf, HL.out, hnms, nmB_false] <;> (try (cases addB n d <;> simp)))
      refine (HD.out (n + 1) (d + 1) _ bp c _ HA4.out.same hB HA4.out.lt (by omega) (by omega) (fun h => addB_use HB.out h) (by omega) (by omega) hl hcm HA4.out.sz).mono ?_
      rintro e v5 hE
      have HE := hid (sz_end HA4.out HB.out hE)
      obtain ⟨rfl, _⟩ := hE
      go_wp2
      go_end0
      exact HE.out

set_option maxHeartbeats 8000000 in
set_option maxRecDepth 100000 in
theorem sexpr42_5 (w : World) (B : Nat) (kind nn : Int) (s f : ByteArray) (args : List Ex) (A : Option Addr) (c : Nat) (hs : s.size ≤ maxLen) (hf : f.size ≤ maxLen) (hl : args.length ≤ c) (hcm : c ≤ maxLen) (hd : SzExprsDo w B args A)
    (n d : Int) (bp : Nat) (W : World) (hS : Same B w W) (hB : B ≤ bp) (hbp : bp < W.heap.size) (hn0 : 0 ≤ n) (hn1 : n ≤ 500) (hd0 : 1 ≤ d) (hd1 : d ≤ 15) (hc : Sz W bp n false) :
    Calls Try.prog 42 #[.pointer (some ⟨bp, 0, none⟩), .agg #[.int .i64 5, .int .i64 kind, .int .i64 nn, .string s, .string f, .slice A args.length c], .int .i64 d] W (SzExprSays n d ⟨5, kind, nn, s, f, args⟩ bp W) := by
  have HS := hid hs
  have HF := hid hf
  have HD := hid hd
  have HA := hid (sized_start (op := 5) (kind := kind) (nn := nn) (s := s) (f := f) (args := args) (A := A) (c := c) hS hB hbp hc)
  have hsb : (W.alloc (.cells #[.int .i64 5, .int .i64 kind, .int .i64 nn, .string s, .string f, .slice A args.length c] 49)).cell? ⟨bp, 2, none⟩ = some (.bool false) := HA.out.sz.b
  clear hs hf hd hc hS
  have hlx : args.length = args.length := rfl
  clear hlx
  by_cases hk : kind = 0
  · subst hk
    cases hqs : nameB s
    · have hnms : nmB s true = false := hqs
      go_enter Try.func42, Try.ntmps42
      go_wp2_with fail
      clear hsb
      refine (node52 bp n d _ hn0 (by omega) HA.out.sz).mono ?_
      rintro e v0 ⟨rfl, hz, hg⟩
      have HA0 := hid (HA.out.step hB hbp hz hg)
      obtain ⟨k0, k1, k2, k3, k4, k5⟩ := HA0.out.box
      clear hz hg HA
      go_wp2_with fail
      refine (right53 bp (n + 1) (!addB n d) (nn == 0) _ HA0.out.sz).mono ?_
      rintro e v1 ⟨rfl, hz, hg⟩
      have HA1 := hid (HA0.out.step hB hbp hz hg)
      clear k0 k1 k2 k3 k4 k5
      obtain ⟨k0, k1, k2, k3, k4, k5⟩ := HA1.out.box
      clear hz hg HA0
      go_wp2_with fail
      refine (name54 s _ HS.out).mono ?_
      rintro e v2 ⟨rfl, hb⟩
      have HA2 := hid (HA1.out.keep hB hbp hb)
      clear k0 k1 k2 k3 k4 k5
      obtain ⟨k0, k1, k2, k3, k4, k5⟩ := HA2.out.box
      clear hb HA1
      go_wp2_with fail
      refine (right53 bp (n + 1) (orN (!addB n d) (nn == 0)) false _ HA2.out.sz).mono ?_
      rintro e v3 ⟨rfl, hz, hg⟩
      have HA3 := hid (HA2.out.step hB hbp hz hg)
      clear k0 k1 k2 k3 k4 k5
      obtain ⟨k0, k1, k2, k3, k4, k5⟩ := HA3.out.box
      clear hz hg HA2
      go_wp2_with fail
      refine (right53 bp (n + 1) (orN (orN (!addB n d) (nn == 0)) false) f.toList.isEmpty _ HA3.out.sz).mono ?_
      rintro e v4 ⟨rfl, hz, hg⟩
      have HA4 := hid (HA3.out.step hB hbp hz hg)
      clear k0 k1 k2 k3 k4 k5
      obtain ⟨k0, k1, k2, k3, k4, k5⟩ := HA4.out.box
      clear hz hg HA3
      go_wp2_with fail
      have HB : Hid ((orN (orN (orN (!addB n d) (nn == 0)) false) f.toList.isEmpty) = !(addB n d && okB ⟨5, 0, nn, s, f, args⟩)) := hid (by simp [orN, okB, arB, namedOf, fieldOf, hnms, nmB_false] <;> (try (cases addB n d <;> simp)))
      refine (HD.out (n + 1) (d + 1) _ bp c _ HA4.out.same hB HA4.out.lt (by omega) (by omega) (fun h => addB_use HB.out h) (by omega) (by omega) hl hcm HA4.out.sz).mono ?_
      rintro e v5 hE
      have HE := hid (sz_end HA4.out HB.out hE)
      obtain ⟨rfl, _⟩ := hE
      go_wp2
      go_end0
      exact HE.out
    · have hnms : nmB s true = true := hqs
      go_enter Try.func42, Try.ntmps42
      go_wp2_with fail
      clear hsb
      refine (node52 bp n d _ hn0 (by omega) HA.out.sz).mono ?_
      rintro e v0 ⟨rfl, hz, hg⟩
      have HA0 := hid (HA.out.step hB hbp hz hg)
      obtain ⟨k0, k1, k2, k3, k4, k5⟩ := HA0.out.box
      clear hz hg HA
      go_wp2_with fail
      refine (right53 bp (n + 1) (!addB n d) (nn == 0) _ HA0.out.sz).mono ?_
      rintro e v1 ⟨rfl, hz, hg⟩
      have HA1 := hid (HA0.out.step hB hbp hz hg)
      clear k0 k1 k2 k3 k4 k5
      obtain ⟨k0, k1, k2, k3, k4, k5⟩ := HA1.out.box
      clear hz hg HA0
      go_wp2_with fail
      refine (name54 s _ HS.out).mono ?_
      rintro e v2 ⟨rfl, hb⟩
      have HA2 := hid (HA1.out.keep hB hbp hb)
      clear k0 k1 k2 k3 k4 k5
      obtain ⟨k0, k1, k2, k3, k4, k5⟩ := HA2.out.box
      clear hb HA1
      go_wp2_with fail
      refine (right53 bp (n + 1) (orN (!addB n d) (nn == 0)) true _ HA2.out.sz).mono ?_
      rintro e v3 ⟨rfl, hz, hg⟩
      have HA3 := hid (HA2.out.step hB hbp hz hg)
      clear k0 k1 k2 k3 k4 k5
      obtain ⟨k0, k1, k2, k3, k4, k5⟩ := HA3.out.box
      clear hz hg HA2
      go_wp2_with fail
      refine (right53 bp (n + 1) (orN (orN (!addB n d) (nn == 0)) true) f.toList.isEmpty _ HA3.out.sz).mono ?_
      rintro e v4 ⟨rfl, hz, hg⟩
      have HA4 := hid (HA3.out.step hB hbp hz hg)
      clear k0 k1 k2 k3 k4 k5
      obtain ⟨k0, k1, k2, k3, k4, k5⟩ := HA4.out.box
      clear hz hg HA3
      go_wp2_with fail
      have HB : Hid ((orN (orN (orN (!addB n d) (nn == 0)) true) f.toList.isEmpty) = !(addB n d && okB ⟨5, 0, nn, s, f, args⟩)) := hid (by simp [orN, okB, arB, namedOf, fieldOf, hnms, nmB_false] <;> (try (cases addB n d <;> simp)))
      refine (HD.out (n + 1) (d + 1) _ bp c _ HA4.out.same hB HA4.out.lt (by omega) (by omega) (fun h => addB_use HB.out h) (by omega) (by omega) hl hcm HA4.out.sz).mono ?_
      rintro e v5 hE
      have HE := hid (sz_end HA4.out HB.out hE)
      obtain ⟨rfl, _⟩ := hE
      go_wp2
      go_end0
      exact HE.out
  · have hkb : (kind == 0) = false := beq_eq_false_iff_ne.2 hk
    cases hqs : nameB s
    · have hnms : nmB s true = false := hqs
      go_enter Try.func42, Try.ntmps42
      go_wp2_with fail
      clear hsb
      refine (node52 bp n d _ hn0 (by omega) HA.out.sz).mono ?_
      rintro e v0 ⟨rfl, hz, hg⟩
      have HA0 := hid (HA.out.step hB hbp hz hg)
      obtain ⟨k0, k1, k2, k3, k4, k5⟩ := HA0.out.box
      clear hz hg HA
      go_wp2_with fail
      refine (right53 bp (n + 1) (!addB n d) false _ HA0.out.sz).mono ?_
      rintro e v1 ⟨rfl, hz, hg⟩
      have HA1 := hid (HA0.out.step hB hbp hz hg)
      clear k0 k1 k2 k3 k4 k5
      obtain ⟨k0, k1, k2, k3, k4, k5⟩ := HA1.out.box
      clear hz hg HA0
      go_wp2_with fail
      refine (name54 s _ HS.out).mono ?_
      rintro e v2 ⟨rfl, hb⟩
      have HA2 := hid (HA1.out.keep hB hbp hb)
      clear k0 k1 k2 k3 k4 k5
      obtain ⟨k0, k1, k2, k3, k4, k5⟩ := HA2.out.box
      clear hb HA1
      go_wp2_with fail
      refine (right53 bp (n + 1) (orN (!addB n d) false) false _ HA2.out.sz).mono ?_
      rintro e v3 ⟨rfl, hz, hg⟩
      have HA3 := hid (HA2.out.step hB hbp hz hg)
      clear k0 k1 k2 k3 k4 k5
      obtain ⟨k0, k1, k2, k3, k4, k5⟩ := HA3.out.box
      clear hz hg HA2
      go_wp2_with fail
      refine (right53 bp (n + 1) (orN (orN (!addB n d) false) false) f.toList.isEmpty _ HA3.out.sz).mono ?_
      rintro e v4 ⟨rfl, hz, hg⟩
      have HA4 := hid (HA3.out.step hB hbp hz hg)
      clear k0 k1 k2 k3 k4 k5
      obtain ⟨k0, k1, k2, k3, k4, k5⟩ := HA4.out.box
      clear hz hg HA3
      go_wp2_with fail
      have HB : Hid ((orN (orN (orN (!addB n d) false) false) f.toList.isEmpty) = !(addB n d && okB ⟨5, kind, nn, s, f, args⟩)) := hid (by simp [orN, okB, arB, namedOf, fieldOf, hk, hnms, nmB_false] <;> (try (cases addB n d <;> simp)))
      refine (HD.out (n + 1) (d + 1) _ bp c _ HA4.out.same hB HA4.out.lt (by omega) (by omega) (fun h => addB_use HB.out h) (by omega) (by omega) hl hcm HA4.out.sz).mono ?_
      rintro e v5 hE
      have HE := hid (sz_end HA4.out HB.out hE)
      obtain ⟨rfl, _⟩ := hE
      go_wp2
      go_end0
      exact HE.out
    · have hnms : nmB s true = true := hqs
      go_enter Try.func42, Try.ntmps42
      go_wp2_with fail
      clear hsb
      refine (node52 bp n d _ hn0 (by omega) HA.out.sz).mono ?_
      rintro e v0 ⟨rfl, hz, hg⟩
      have HA0 := hid (HA.out.step hB hbp hz hg)
      obtain ⟨k0, k1, k2, k3, k4, k5⟩ := HA0.out.box
      clear hz hg HA
      go_wp2_with fail
      refine (right53 bp (n + 1) (!addB n d) false _ HA0.out.sz).mono ?_
      rintro e v1 ⟨rfl, hz, hg⟩
      have HA1 := hid (HA0.out.step hB hbp hz hg)
      clear k0 k1 k2 k3 k4 k5
      obtain ⟨k0, k1, k2, k3, k4, k5⟩ := HA1.out.box
      clear hz hg HA0
      go_wp2_with fail
      refine (name54 s _ HS.out).mono ?_
      rintro e v2 ⟨rfl, hb⟩
      have HA2 := hid (HA1.out.keep hB hbp hb)
      clear k0 k1 k2 k3 k4 k5
      obtain ⟨k0, k1, k2, k3, k4, k5⟩ := HA2.out.box
      clear hb HA1
      go_wp2_with fail
      refine (right53 bp (n + 1) (orN (!addB n d) false) true _ HA2.out.sz).mono ?_
      rintro e v3 ⟨rfl, hz, hg⟩
      have HA3 := hid (HA2.out.step hB hbp hz hg)
      clear k0 k1 k2 k3 k4 k5
      obtain ⟨k0, k1, k2, k3, k4, k5⟩ := HA3.out.box
      clear hz hg HA2
      go_wp2_with fail
      refine (right53 bp (n + 1) (orN (orN (!addB n d) false) true) f.toList.isEmpty _ HA3.out.sz).mono ?_
      rintro e v4 ⟨rfl, hz, hg⟩
      have HA4 := hid (HA3.out.step hB hbp hz hg)
      clear k0 k1 k2 k3 k4 k5
      obtain ⟨k0, k1, k2, k3, k4, k5⟩ := HA4.out.box
      clear hz hg HA3
      go_wp2_with fail
      have HB : Hid ((orN (orN (orN (!addB n d) false) true) f.toList.isEmpty) = !(addB n d && okB ⟨5, kind, nn, s, f, args⟩)) := hid (by simp [orN, okB, arB, namedOf, fieldOf, hk, hnms, nmB_false] <;> (try (cases addB n d <;> simp)))
      refine (HD.out (n + 1) (d + 1) _ bp c _ HA4.out.same hB HA4.out.lt (by omega) (by omega) (fun h => addB_use HB.out h) (by omega) (by omega) hl hcm HA4.out.sz).mono ?_
      rintro e v5 hE
      have HE := hid (sz_end HA4.out HB.out hE)
      obtain ⟨rfl, _⟩ := hE
      go_wp2
      go_end0
      exact HE.out

end Go.Proofs.Ytmkpoaapcghohaa
