/- Contract: the reference's Size.Expr. -/
import Derived.Test.YtmkpoaapcghohaaSizeB
import Derived.Test.YtmkpoaapcghohaaSizeC
import Derived.Test.YtmkpoaapcghohaaSizeD
import Derived.Test.YtmkpoaapcghohaaSizeE
namespace Go.Proofs.Ytmkpoaapcghohaa
open Go.RowKit

theorem sexpr42 (w : World) (B : Nat) (x : Ex) (A : Option Addr) (c : Nat) (hf : Fits x c) (hd : SzExprsDo w B x.args A)
    (n d : Int) (bp : Nat) (W : World) (hS : Same B w W) (hB : B ≤ bp) (hbp : bp < W.heap.size) (hn0 : 0 ≤ n) (hn1 : n ≤ 500) (hd0 : 1 ≤ d) (hd1 : d ≤ 15) (hc : Sz W bp n false) :
    Calls Try.prog 42 #[.pointer (some ⟨bp, 0, none⟩), .agg #[.int .i64 x.op, .int .i64 x.kind, .int .i64 x.n, .string x.s, .string x.f, .slice A x.args.length c], .int .i64 d] W (SzExprSays n d x bp W) := by
  obtain ⟨op, kind, nn, s, f, args⟩ := x
  by_cases ho : op < 1 ∨ 21 < op
  · exact sexpr42_o w B op kind nn s f args A c hf.s hf.f hf.l hf.c hd n d bp W hS hB hbp hn0 hn1 hd0 hd1 hc ho
  by_cases h8 : 8 ≤ op
  · exact sexpr42_b w B op kind nn s f args A c hf.s hf.f hf.l hf.c hd n d bp W hS hB hbp hn0 hn1 hd0 hd1 hc h8 (by omega)
  rcases (show op = 1 ∨ op = 2 ∨ op = 3 ∨ op = 4 ∨ op = 5 ∨ op = 6 ∨ op = 7 by omega) with rfl | rfl | rfl | rfl | rfl | rfl | rfl
  · exact sexpr42_1 w B kind nn s f args A c hf.s hf.f hf.l hf.c hd n d bp W hS hB hbp hn0 hn1 hd0 hd1 hc
  · exact sexpr42_2 w B kind nn s f args A c hf.s hf.f hf.l hf.c hd n d bp W hS hB hbp hn0 hn1 hd0 hd1 hc
  · exact sexpr42_3 w B kind nn s f args A c hf.s hf.f hf.l hf.c hd n d bp W hS hB hbp hn0 hn1 hd0 hd1 hc
  · exact sexpr42_4 w B kind nn s f args A c hf.s hf.f hf.l hf.c hd n d bp W hS hB hbp hn0 hn1 hd0 hd1 hc
  · exact sexpr42_5 w B kind nn s f args A c hf.s hf.f hf.l hf.c hd n d bp W hS hB hbp hn0 hn1 hd0 hd1 hc
  · exact sexpr42_6 w B kind nn s f args A c hf.s hf.f hf.l hf.c hd n d bp W hS hB hbp hn0 hn1 hd0 hd1 hc
  · exact sexpr42_7 w B kind nn s f args A c hf.s hf.f hf.l hf.c hd n d bp W hS hB hbp hn0 hn1 hd0 hd1 hc
end Go.Proofs.Ytmkpoaapcghohaa
