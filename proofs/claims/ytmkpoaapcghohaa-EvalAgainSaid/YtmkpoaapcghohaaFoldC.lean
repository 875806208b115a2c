/- Contract: the reference's constant; laws of the reference's fold, way by way. -/
import Derived.Test.YtmkpoaapcghohaaFoldE
namespace Go.Proofs.Ytmkpoaapcghohaa
open Go.RowKit
def ConSays (x : Value) (k v : Int) (W : World) (e : Ending) (w' : World) : Prop :=
  ((v < 0 ∧ e = .returned x) ∨ (¬ v < 0 ∧ e = .returned (.agg #[.int .i64 1, .int .i64 k, .int .i64 v, .string ⟨#[]⟩, .string ⟨#[]⟩, .slice none 0 0]))) ∧ Below W.heap.size W w'
set_option maxHeartbeats 2000000 in
theorem con45 (op kind n : Int) (s f : ByteArray) (A : Option Addr) (l c : Nat) (k v : Int) (W : World) :
    Calls Try.prog 45 #[.agg #[.int .i64 op, .int .i64 kind, .int .i64 n, .string s, .string f, .slice A l c], .int .i64 k, .int .i64 v] W
      (ConSays (.agg #[.int .i64 op, .int .i64 kind, .int .i64 n, .string s, .string f, .slice A l c]) k v W) := by
  obtain ⟨W2, hW2⟩ : ∃ W2, W2 = (W.alloc (.cells #[.int .i64 op, .int .i64 kind, .int .i64 n, .string s, .string f, .slice A l c] 49)).alloc (.cells #[.int .i64 0, .int .i64 0, .int .i64 0, .string ⟨#[]⟩, .string ⟨#[]⟩, .slice none 0 0] 49) := ⟨_, rfl⟩
  have HTF : Hid (TF W.heap.size op kind n s f A l c W2) := hid (by rw [hW2]; exact TF.start _ _ _ _ _ _ _ _ _)
  have HB0 : Hid (Below W.heap.size W W2) := hid (by rw [hW2]; exact ((Below.refl _ _).alloc (Nat.le_refl _) _).alloc (by simp) _)
  obtain ⟨⟨q0, q1, q2, q3, q4, q5⟩, ⟨r0, r1, r2, r3, r4, r5⟩, hfz, _⟩ := HTF.out
  have f0 := hfz 0 (by omega)
  have f1 := hfz 1 (by omega)
  have f2 := hfz 2 (by omega)
  have f3 := hfz 3 (by omega)
  have f4 := hfz 4 (by omega)
  have f5 := hfz 5 (by omega)
  clear hfz
  by_cases hv : v < 0
  · go_enter Try.func45, Try.ntmps45
    go_upto_region 1 with fail
    rw [← hW2]
    clear hW2
    go_wp2
    refine ret_set6 rfl rfl rfl ⟨r0, r1, r2, r3, r4, r5⟩ ?_
    refine ⟨.inl ⟨hv, rfl⟩, ?_⟩
    exact (((((HB0.out.setCell (by simp) _).setCell (by simp) _).setCell (by simp) _).setCell (by simp) _).setCell (by simp) _).setCell (by simp) _
  · go_enter Try.func45, Try.ntmps45
    go_upto_region 1 with fail
    rw [← hW2]
    clear hW2
    go_wp2
    refine ret_set6 rfl rfl rfl ⟨r0, r1, r2, r3, r4, r5⟩ ?_
    refine ⟨.inr ⟨by omega, rfl⟩, ?_⟩
    exact (((((HB0.out.setCell (by simp) _).setCell (by simp) _).setCell (by simp) _).setCell (by simp) _).setCell (by simp) _).setCell (by simp) _

/-! the reference, way by way -/
theorem r_lt {x : Ex} (h : x.op < 6) : rTop x = x := by unfold rTop; rw [if_pos (.inl h)]
theorem r_ne {x : Ex} (h : ¬ x.op < 6) (h2 : x.op ≤ 21) (h1 : (x.args.getD 0 ex0).op ≠ 1) : rTop x = x := by unfold rTop; rw [if_neg (by omega), if_pos h1]
theorem r_un0 {x a : Ex} (h : x.op = 6 ∨ x.op = 7) (ha : x.args.getD 0 ex0 = a) (h1 : a.op = 1) (h0 : rUnF x.op a.kind = 0) : rTop x = x := by
  unfold rTop; rw [if_neg (by omega), ha, if_neg (by omega), if_pos h, if_pos h0]
theorem r_un {x a : Ex} (h : x.op = 6 ∨ x.op = 7) (ha : x.args.getD 0 ex0 = a) (h1 : a.op = 1) (h0 : rUnF x.op a.kind ≠ 0) : rTop x = conR x a.kind (rUn x.op a.n).1 := by
  unfold rTop; rw [if_neg (by omega), ha, if_neg (by omega), if_pos h, if_neg h0]
theorem r_left {x a : Ex} (h : 8 ≤ x.op) (h2 : x.op ≤ 21) (ha : x.args.getD 0 ex0 = a) (h1 : a.op = 1) (h0 : rLeft x.op a = true) : rTop x = a := by
  unfold rTop; rw [if_neg (by omega), ha, if_neg (by omega), if_neg (by omega), if_pos h0]
theorem r_two {x a b : Ex} (h : 8 ≤ x.op) (h2 : x.op ≤ 21) (ha : x.args.getD 0 ex0 = a) (hb : x.args.getD 1 ex0 = b) (h1 : a.op = 1) (h0 : rLeft x.op a = false) : rTop x = rTwo x a b := by
  unfold rTop; rw [if_neg (by omega), ha, hb, if_neg (by omega), if_neg (by omega), if_neg (by simp [h0])]
theorem two_0 {x a b : Ex} (h : rKind x.op a b = 0) : rTwo x a b = x := by unfold rTwo; rw [if_pos h]
theorem two_f {x a b : Ex} (h : (rBin x.op a.n b.n).2.1 ≠ 0) : rTwo x a b = x := by unfold rTwo; rw [if_pos h]; split <;> rfl
theorem two_c {x a b : Ex} (h0 : rKind x.op a b ≠ 0) (h : (rBin x.op a.n b.n).2.1 = 0) : rTwo x a b = conR x (rKind x.op a b) (rBin x.op a.n b.n).1 := by
  unfold rTwo; rw [if_neg h0, if_neg (by omega)]
theorem con_neg {x : Ex} {k v : Int} (h : v < 0) : conR x k v = x := by unfold conR; rw [if_pos h]
theorem con_pos {x : Ex} {k v : Int} (h : ¬ v < 0) : conR x k v = ⟨1, k, v, ⟨#[]⟩, ⟨#[]⟩, []⟩ := by unfold conR; rw [if_neg h]; rfl
end Go.Proofs.Ytmkpoaapcghohaa
