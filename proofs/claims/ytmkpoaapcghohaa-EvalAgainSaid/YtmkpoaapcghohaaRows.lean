/-
  NARROWER THAN 'FOR EVERY INPUT', by the rows' own cells (each row's printed sentence says how): EvalFolds: loops · EvalAgain: loops.
  DERIVED. THE GIVEN ROWS OF THIS SEAT. 7 by the template 'for every input the law returns true; each argument reads behind the call as it read before'; 0 by the template 'total and deterministic' (their statements: YtmkpoaapcghohaaTotals.lean).
  GIVEN WITH THE SEED: the statements are not yours to turn. If you find one false, say at which input.
  Laid BY PROGRAM, IN A SANDBOX (cutbox-rows.mjs): the forced cells as the released guide's own fill.sh prints them over the translation 21a96d410c278cf2… (all of the seat's roots in one cut). By AI agents, Wed Nov 11 2026. No macro, syntax, notation, axiom, sorry.
-/
import Derived.Test.YtmkpoaapcghohaaChecked
import GoSem.Claim
import GoSem.ClaimJoined
import GoSem.ClaimMapViews
import Derived.JoinedTies
import Derived.KernelRfl
namespace Go.Proofs.Ytmkpoaapcghohaa
/- THE CELL 'sum', in the pinned program and in every row, IS THE sha256 OF THE DUMP (.gsa) THAT YtmkpoaapcghohaaProg.lean LOADS. Nothing in Lean hashes anything: it is a label: what it is worth is what the hold of that sum in a sandbox is worth. -/
noncomputable def Try.pinned : Pinned := { name := "ytmkpoaapcghohaa", sum := "21a96d410c278cf26c9c3a4c9a0150b0f288e805dc0d1963fd3b5cd25d3400d3", checked := Try.checked }
namespace Rows
def none {H : Type} : Left H := { results := [], args := [] }

/-- 'winchlaw11.EvalWraps': WHATEVER THE INPUT: true; the input reads as it did. -/
def evalWrapsSpec : ChangeSpec := { name := "evalWraps", fn := fun _ => fun
  | [d1, d2] => { results := [.lit (.bool true)], args := [d1, d2] }
  | _ => none }
def evalWrapsRow : OpenClaim := { program := "ytmkpoaapcghohaa", sum := "21a96d410c278cf26c9c3a4c9a0150b0f288e805dc0d1963fd3b5cd25d3400d3", func := "winch/winchlaw11.EvalWraps", spec := "evalWraps", apart := false }
def EvalWrapsSaid : Prop := evalWrapsRow.holds Try.pinned (OpenSpec.ofChange evalWrapsSpec)

/-- ITS FALSE NEIGHBOUR: 'it returns false'. Refute it at one input. -/
def evalWrapsWrong : ChangeSpec := { name := "evalWraps", fn := fun _ => fun
  | [d1, d2] => { results := [.lit (.bool false)], args := [d1, d2] }
  | _ => none }
def EvalWrapsWrongFalsely : Prop := evalWrapsRow.holds Try.pinned (OpenSpec.ofChange evalWrapsWrong)

/-- 'winchlaw11.EvalQuotients': WHATEVER THE INPUT: true; the input reads as it did. -/
def evalQuotientsSpec : ChangeSpec := { name := "evalQuotients", fn := fun _ => fun
  | [d1, d2] => { results := [.lit (.bool true)], args := [d1, d2] }
  | _ => none }
def evalQuotientsRow : OpenClaim := { program := "ytmkpoaapcghohaa", sum := "21a96d410c278cf26c9c3a4c9a0150b0f288e805dc0d1963fd3b5cd25d3400d3", func := "winch/winchlaw11.EvalQuotients", spec := "evalQuotients", apart := false }
def EvalQuotientsSaid : Prop := evalQuotientsRow.holds Try.pinned (OpenSpec.ofChange evalQuotientsSpec)

/-- ITS FALSE NEIGHBOUR: 'it returns false'. Refute it at one input. -/
def evalQuotientsWrong : ChangeSpec := { name := "evalQuotients", fn := fun _ => fun
  | [d1, d2] => { results := [.lit (.bool false)], args := [d1, d2] }
  | _ => none }
def EvalQuotientsWrongFalsely : Prop := evalQuotientsRow.holds Try.pinned (OpenSpec.ofChange evalQuotientsWrong)

/-- 'winchlaw11.EvalOperators': WHATEVER THE INPUT: true; the input reads as it did. -/
def evalOperatorsSpec : ChangeSpec := { name := "evalOperators", fn := fun _ => fun
  | [d1, d2, d3] => { results := [.lit (.bool true)], args := [d1, d2, d3] }
  | _ => none }
def evalOperatorsRow : OpenClaim := { program := "ytmkpoaapcghohaa", sum := "21a96d410c278cf26c9c3a4c9a0150b0f288e805dc0d1963fd3b5cd25d3400d3", func := "winch/winchlaw11.EvalOperators", spec := "evalOperators", apart := false }
def EvalOperatorsSaid : Prop := evalOperatorsRow.holds Try.pinned (OpenSpec.ofChange evalOperatorsSpec)

/-- ITS FALSE NEIGHBOUR: 'it returns false'. Refute it at one input. -/
def evalOperatorsWrong : ChangeSpec := { name := "evalOperators", fn := fun _ => fun
  | [d1, d2, d3] => { results := [.lit (.bool false)], args := [d1, d2, d3] }
  | _ => none }
def EvalOperatorsWrongFalsely : Prop := evalOperatorsRow.holds Try.pinned (OpenSpec.ofChange evalOperatorsWrong)

/-- 'winchlaw11.EvalCompares': WHATEVER THE INPUT: true; the input reads as it did. -/
def evalComparesSpec : ChangeSpec := { name := "evalCompares", fn := fun _ => fun
  | [d1, d2] => { results := [.lit (.bool true)], args := [d1, d2] }
  | _ => none }
def evalComparesRow : OpenClaim := { program := "ytmkpoaapcghohaa", sum := "21a96d410c278cf26c9c3a4c9a0150b0f288e805dc0d1963fd3b5cd25d3400d3", func := "winch/winchlaw11.EvalCompares", spec := "evalCompares", apart := false }
def EvalComparesSaid : Prop := evalComparesRow.holds Try.pinned (OpenSpec.ofChange evalComparesSpec)

/-- ITS FALSE NEIGHBOUR: 'it returns false'. Refute it at one input. -/
def evalComparesWrong : ChangeSpec := { name := "evalCompares", fn := fun _ => fun
  | [d1, d2] => { results := [.lit (.bool false)], args := [d1, d2] }
  | _ => none }
def EvalComparesWrongFalsely : Prop := evalComparesRow.holds Try.pinned (OpenSpec.ofChange evalComparesWrong)

/-- 'winchlaw11.EvalCalls': WHATEVER THE INPUT: true; the input reads as it did. -/
def evalCallsSpec : ChangeSpec := { name := "evalCalls", fn := fun _ => fun
  | [d1, d2] => { results := [.lit (.bool true)], args := [d1, d2] }
  | _ => none }
def evalCallsRow : OpenClaim := { program := "ytmkpoaapcghohaa", sum := "21a96d410c278cf26c9c3a4c9a0150b0f288e805dc0d1963fd3b5cd25d3400d3", func := "winch/winchlaw11.EvalCalls", spec := "evalCalls", apart := false }
def EvalCallsSaid : Prop := evalCallsRow.holds Try.pinned (OpenSpec.ofChange evalCallsSpec)

/-- ITS FALSE NEIGHBOUR: 'it returns false'. Refute it at one input. -/
def evalCallsWrong : ChangeSpec := { name := "evalCalls", fn := fun _ => fun
  | [d1, d2] => { results := [.lit (.bool false)], args := [d1, d2] }
  | _ => none }
def EvalCallsWrongFalsely : Prop := evalCallsRow.holds Try.pinned (OpenSpec.ofChange evalCallsWrong)

/-- 'winchlaw11.EvalFolds': WHATEVER THE INPUT: true; the input reads as it did. -/
def evalFoldsSpec : ChangeSpec := { name := "evalFolds", fn := fun _ => fun
  | [d] => { results := [.lit (.bool true)], args := [d] }
  | _ => none }
def evalFoldsRow : OpenClaim := { program := "ytmkpoaapcghohaa", sum := "21a96d410c278cf26c9c3a4c9a0150b0f288e805dc0d1963fd3b5cd25d3400d3", func := "winch/winchlaw11.EvalFolds", spec := "evalFolds", recurses := true, loops := true, apart := false }
def EvalFoldsSaid : Prop := evalFoldsRow.holds Try.pinned (OpenSpec.ofChange evalFoldsSpec)

/-- ITS FALSE NEIGHBOUR: 'it returns false'. Refute it at one input. -/
def evalFoldsWrong : ChangeSpec := { name := "evalFolds", fn := fun _ => fun
  | [d] => { results := [.lit (.bool false)], args := [d] }
  | _ => none }
def EvalFoldsWrongFalsely : Prop := evalFoldsRow.holds Try.pinned (OpenSpec.ofChange evalFoldsWrong)

/-- 'winchlaw11.EvalAgain': WHATEVER THE INPUT: true; the input reads as it did. -/
def evalAgainSpec : ChangeSpec := { name := "evalAgain", fn := fun _ => fun
  | [d] => { results := [.lit (.bool true)], args := [d] }
  | _ => none }
def evalAgainRow : OpenClaim := { program := "ytmkpoaapcghohaa", sum := "21a96d410c278cf26c9c3a4c9a0150b0f288e805dc0d1963fd3b5cd25d3400d3", func := "winch/winchlaw11.EvalAgain", spec := "evalAgain", recurses := true, loops := true, apart := false }
def EvalAgainSaid : Prop := evalAgainRow.holds Try.pinned (OpenSpec.ofChange evalAgainSpec)

/-- ITS FALSE NEIGHBOUR: 'it returns false'. Refute it at one input. -/
def evalAgainWrong : ChangeSpec := { name := "evalAgain", fn := fun _ => fun
  | [d] => { results := [.lit (.bool false)], args := [d] }
  | _ => none }
def EvalAgainWrongFalsely : Prop := evalAgainRow.holds Try.pinned (OpenSpec.ofChange evalAgainWrong)

/- THE SECOND FORM. 'bulk': how many values and letters a reading holds, each counted each time it is reached (what is shared counts as often as it is met; a slice's spare places count too). A statement '..UptoSaid' is the law's where the arguments, and the package variables that the reading takes, are together of bulk at most 1048576: NARROWER than '..Said'. Prove '..Said' where nothing that the law and all that it calls make is longer than what came in: it says more and counts as full. Else prove '..UptoSaid'. A law counts once. -/
mutual
def uptoBulk {H : Type} : DataW H → Nat
  | .lit (.string bytes) => bytes.length + 1
  | .lit _ => 1
  | .nil => 1
  | .ptr d => uptoBulk d + 1
  | .slice elems spare => uptoBulkAll elems + uptoBulkAll spare + 1
  | .agg parts => uptoBulkAll parts + 1
  | .iface _ d => uptoBulk d + 1
  | .map entries => uptoBulkEntries entries + 1
  | .held _ => 1
def uptoBulkAll {H : Type} : List (DataW H) → Nat
  | [] => 0
  | d :: r => uptoBulk d + uptoBulkAll r
def uptoBulkEntries {H : Type} : List (Lit × DataW H) → Nat
  | [] => 0
  | x :: r => uptoBulkEntry x + uptoBulkEntries r
def uptoBulkEntry {H : Type} : Lit × DataW H → Nat
  | (.string bytes, d) => bytes.length + uptoBulk d + 1
  | (_, d) => uptoBulk d + 1
 end
def uptoSmall : (H : Type) → List (DataW H) → Bool := fun _ ds => decide (uptoBulkAll ds ≤ 1048576)
def OpenSpec.upto (s : _root_.Go.ChangeSpec) : _root_.Go.OpenSpec := { _root_.Go.OpenSpec.ofChange s with cond := some uptoSmall }

/-- 'winchlaw11.EvalWraps', WHERE WHAT IT READS IS OF BULK AT MOST 1048576: true; the input reads as it did. -/
def evalWrapsUptoRow : OpenClaim := { program := "ytmkpoaapcghohaa", sum := "21a96d410c278cf26c9c3a4c9a0150b0f288e805dc0d1963fd3b5cd25d3400d3", func := "winch/winchlaw11.EvalWraps", spec := "evalWraps", apart := false, narrowed := true }
def EvalWrapsUptoSaid : Prop := evalWrapsUptoRow.holds Try.pinned (OpenSpec.upto evalWrapsSpec)

/-- 'winchlaw11.EvalQuotients', WHERE WHAT IT READS IS OF BULK AT MOST 1048576: true; the input reads as it did. -/
def evalQuotientsUptoRow : OpenClaim := { program := "ytmkpoaapcghohaa", sum := "21a96d410c278cf26c9c3a4c9a0150b0f288e805dc0d1963fd3b5cd25d3400d3", func := "winch/winchlaw11.EvalQuotients", spec := "evalQuotients", apart := false, narrowed := true }
def EvalQuotientsUptoSaid : Prop := evalQuotientsUptoRow.holds Try.pinned (OpenSpec.upto evalQuotientsSpec)

/-- 'winchlaw11.EvalOperators', WHERE WHAT IT READS IS OF BULK AT MOST 1048576: true; the input reads as it did. -/
def evalOperatorsUptoRow : OpenClaim := { program := "ytmkpoaapcghohaa", sum := "21a96d410c278cf26c9c3a4c9a0150b0f288e805dc0d1963fd3b5cd25d3400d3", func := "winch/winchlaw11.EvalOperators", spec := "evalOperators", apart := false, narrowed := true }
def EvalOperatorsUptoSaid : Prop := evalOperatorsUptoRow.holds Try.pinned (OpenSpec.upto evalOperatorsSpec)

/-- 'winchlaw11.EvalCompares', WHERE WHAT IT READS IS OF BULK AT MOST 1048576: true; the input reads as it did. -/
def evalComparesUptoRow : OpenClaim := { program := "ytmkpoaapcghohaa", sum := "21a96d410c278cf26c9c3a4c9a0150b0f288e805dc0d1963fd3b5cd25d3400d3", func := "winch/winchlaw11.EvalCompares", spec := "evalCompares", apart := false, narrowed := true }
def EvalComparesUptoSaid : Prop := evalComparesUptoRow.holds Try.pinned (OpenSpec.upto evalComparesSpec)

/-- 'winchlaw11.EvalCalls', WHERE WHAT IT READS IS OF BULK AT MOST 1048576: true; the input reads as it did. -/
def evalCallsUptoRow : OpenClaim := { program := "ytmkpoaapcghohaa", sum := "21a96d410c278cf26c9c3a4c9a0150b0f288e805dc0d1963fd3b5cd25d3400d3", func := "winch/winchlaw11.EvalCalls", spec := "evalCalls", apart := false, narrowed := true }
def EvalCallsUptoSaid : Prop := evalCallsUptoRow.holds Try.pinned (OpenSpec.upto evalCallsSpec)

/-- 'winchlaw11.EvalFolds', WHERE WHAT IT READS IS OF BULK AT MOST 1048576: true; the input reads as it did. -/
def evalFoldsUptoRow : OpenClaim := { program := "ytmkpoaapcghohaa", sum := "21a96d410c278cf26c9c3a4c9a0150b0f288e805dc0d1963fd3b5cd25d3400d3", func := "winch/winchlaw11.EvalFolds", spec := "evalFolds", recurses := true, loops := true, apart := false, narrowed := true }
def EvalFoldsUptoSaid : Prop := evalFoldsUptoRow.holds Try.pinned (OpenSpec.upto evalFoldsSpec)

/-- 'winchlaw11.EvalAgain', WHERE WHAT IT READS IS OF BULK AT MOST 1048576: true; the input reads as it did. -/
def evalAgainUptoRow : OpenClaim := { program := "ytmkpoaapcghohaa", sum := "21a96d410c278cf26c9c3a4c9a0150b0f288e805dc0d1963fd3b5cd25d3400d3", func := "winch/winchlaw11.EvalAgain", spec := "evalAgain", recurses := true, loops := true, apart := false, narrowed := true }
def EvalAgainUptoSaid : Prop := evalAgainUptoRow.holds Try.pinned (OpenSpec.upto evalAgainSpec)

end Rows
end Go.Proofs.Ytmkpoaapcghohaa
