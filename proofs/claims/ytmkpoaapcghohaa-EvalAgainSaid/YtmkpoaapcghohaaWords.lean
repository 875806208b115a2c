/- Contracts: is a string a word, by both texts. -/
import Derived.Test.YtmkpoaapcghohaaWeigh
namespace Go.Proofs.Ytmkpoaapcghohaa
open Go.RowKit

/-- the words, as bytes -/
def wordL : List (List UInt8) := [[97, 100, 100], [97, 110, 100], [97, 110, 100, 110], [97, 116], [98, 108, 111, 99, 107], [98, 111, 111, 108], [98, 111, 120], [98, 121], [99, 97, 108], [99, 97, 108, 99], [99, 97, 108, 99, 110], [99, 97, 115, 101], [100, 101, 108, 97, 121], [100, 105, 118], [100, 111], [101, 108, 115, 101], [101, 108, 115, 105, 102], [101, 110, 100], [101, 110, 100, 95, 99, 97, 115, 101], [101, 110, 100, 95, 102, 111, 114], [101, 110, 100, 95, 105, 102], [101, 110, 100, 95, 114, 101, 112, 101, 97, 116], [101, 110, 100, 95, 119, 104, 105, 108, 101], [101, 110, 116, 101, 114], [101, 113], [101, 118, 101, 114, 121], [101, 120, 105, 116], [102, 97, 108, 108], [102, 97, 108, 115, 101], [102, 98, 100], [102, 111, 114], [102, 114, 111, 109], [102, 117, 110, 99, 116, 105, 111, 110], [103, 101], [103, 116], [105, 102], [105, 108], [105, 110, 105, 116, 105, 97, 108], [105, 110, 112, 117, 116], [105, 110, 116], [106, 109, 112], [106, 109, 112, 99], [106, 109, 112, 99, 110], [106, 117, 109, 112], [108, 100], [108, 100, 110], [108, 101], [108, 101, 97, 118, 101], [108, 105, 109, 105, 116, 95], [108, 111, 99, 97, 108], [108, 116], [109, 97, 99, 114, 111], [109, 111, 100], [109, 117, 108], [110, 101], [110, 111, 116], [111, 102], [111, 114], [111, 114, 110], [111, 117, 116, 112, 117, 116], [112, 104, 97, 115, 101], [112, 114, 105, 111, 114, 105, 116, 121], [112, 114, 111, 103, 114, 97, 109], [114, 101, 112, 101, 97, 116], [114, 101, 115, 101, 116], [114, 101, 116], [114, 101, 116, 97, 105, 110], [114, 101, 116, 99], [114, 101, 116, 99, 110], [114, 101, 116, 117, 114, 110], [114, 105, 115, 101], [114, 117, 110], [114, 117, 110, 103], [115, 101, 116], [115, 102, 99], [115, 116], [115, 116, 101, 112], [115, 116, 110], [115, 117, 98], [116, 97, 115, 107], [116, 104, 101, 110], [116, 105, 109, 101], [116, 111], [116, 114, 97, 110, 115, 105, 116, 105, 111, 110], [116, 114, 117, 101], [117, 110, 116, 105, 108], [119, 104, 101, 110], [119, 104, 105, 108, 101], [120, 111, 114], [120, 111, 114, 110]]
def isWord (l : List UInt8) : Bool := wordL.any fun w => l == w
theorem no_both {a b : List UInt8} {P : Prop} (h : (a == b) = true) (k : (a == b) = false) : P := by rw [h] at k; cases k
theorem isWord_true {l w : List UInt8} (h : (l == w) = true) (hw : isWord w = true) : isWord l = true := by rw [eq_of_beq h]; exact hw

set_option maxHeartbeats 8000000 in
set_option maxRecDepth 100000 in
theorem word69 (s : ByteArray) (w : World) : Calls Try.prog 69 #[.string s] w fun e w' => e = .returned (.bool (isWord s.toList)) ∧ w = w' := by
  generalize hr : isWord s.toList = r
  have HR := hid hr
  clear hr
  go_enter Try.func69, Try.ntmps69
  go_wp2
  all_goals
    go_ret
    first
    | exact ⟨retBool (HR.out.symm.trans (isWord_true (l := s.toList) (by assumption) (by decide))).symm, rfl⟩
    | exact no_both (by assumption) (by assumption)
    | exact ⟨retBool (HR.out.symm.trans (by simp only [isWord, wordL, List.any_cons, List.any_nil, Bool.or_self, *])).symm, rfl⟩

set_option maxHeartbeats 2000000 in
set_option maxRecDepth 100000 in
theorem words67 (w : World) : Calls Try.prog 67 #[] w fun e w' => e = .returned (.slice (some ⟨w.heap.size, 0, none⟩) 90 90) ∧ w.alloc (.cells (wordL.map fun l => Value.string ⟨l.toArray⟩).toArray 9) = w' := by
  go_enter Try.func67, Try.ntmps67
  go_wp2
  go_ret
  refine ⟨rfl, ?_⟩
  rfl

end Go.Proofs.Ytmkpoaapcghohaa
