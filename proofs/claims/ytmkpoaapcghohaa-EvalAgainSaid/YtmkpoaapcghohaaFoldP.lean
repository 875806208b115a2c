/- Plain laws: folding by the code and by the reference. -/
import Derived.Test.YtmkpoaapcghohaaSame
import Derived.Test.YtmkpoaapcghohaaOpsB
namespace Go.Proofs.Ytmkpoaapcghohaa
open Go.RowKit

/-- the kind of constants, of a kind already known; none: an expression is none of them -/
def cst (k : Int) : List Ex → Option Int
  | [] => some k
  | x :: xs => if x.op ≠ 1 ∨ (k ≠ 0 ∧ x.kind ≠ k) then none else cst x.kind xs
/-- the kind of a result -/
def resF (op k : Int) : Int :=
  if op = 6 ∨ (8 ≤ op ∧ op ≤ 10) then (if k = 1 then 1 else 0) else if op = 11 ∨ op = 12 then 1
  else if 13 ≤ op ∧ op ≤ 16 then (if k = 2 ∨ k = 3 then 1 else 0) else if op = 17 ∨ op = 18 then (if k = 2 ∨ k = 3 then k else 0) else if k = 2 then k else 0
def cmk (k n : Int) : Ex := ⟨1, k, n, ⟨#[]⟩, ⟨#[]⟩, []⟩
def leftB (op : Int) (a : Ex) : Bool := (op == 8 || op == 10) && a.op == 1 && a.kind == 1 && ((a.n == 1) == (op == 8))
/-- the value and the fault -/
def valF (op : Int) (xs : List Ex) : Int × Int :=
  if xs.length = 1 then ((un op (xs.getD 0 ex0).n).1, 0) else ((bin op (xs.getD 0 ex0).n (xs.getD 1 ex0).n).1, (bin op (xs.getD 0 ex0).n (xs.getD 1 ex0).n).2.1)
def outF (x : Ex) (r : Int) (v : Int × Int) : Ex := if v.2 ≠ 0 ∨ v.1 < 0 then x else cmk r v.1
def midF (x : Ex) : Option Int → Ex
  | none => x
  | some k => if k = 0 ∨ resF x.op k = 0 then x else outF x (resF x.op k) (valF x.op x.args)
def topE (x : Ex) : Ex :=
  if x.op < 6 then x else if leftB x.op (x.args.getD 0 ex0) then x.args.getD 0 ex0 else midF x (cst 0 x.args)

mutual
def Ex.fold : Ex → Ex
  | ⟨op, kind, n, s, f, args⟩ => topE ⟨op, kind, n, s, f, foldL args⟩
def foldL : List Ex → List Ex
  | [] => []
  | x :: xs => x.fold :: foldL xs
end
theorem Ex.fold_eq (x : Ex) : x.fold = topE { x with args := foldL x.args } := by cases x; rw [Ex.fold]
theorem foldL_len (xs : List Ex) : (foldL xs).length = xs.length := by
  induction xs with
  | nil => rw [foldL]
  | cons x xs ih => rw [foldL, List.length_cons, ih, List.length_cons]
theorem foldL_at {xs : List Ex} {k : Nat} (h : k < xs.length) : (foldL xs).getD k ex0 = (xs.getD k ex0).fold := by
  induction xs generalizing k with
  | nil => simp at h
  | cons x xs ih =>
    rw [foldL]
    cases k with
    | zero => simp [List.getD]
    | succ k =>
      have := ih (k := k) (by simpa using h)
      simp only [List.getD_eq_getElem?_getD, List.getElem?_cons_succ] at this ⊢
      exact this

/-! the reference -/
def rUnF (op k : Int) : Int := if (op = 6 ∧ k = 1) ∨ (op = 7 ∧ k = 2) then k else 0
def rBinF (op a b : Int) : Int :=
  if a ≠ b ∨ a < 1 ∨ 3 < a then 0 else if op = 8 ∨ op = 9 ∨ op = 10 then (if a = 1 then 1 else 0) else if op = 11 ∨ op = 12 then 1
  else if 13 ≤ op ∧ op ≤ 16 then (if a ≠ 1 then 1 else 0) else if op = 17 ∨ op = 18 then (if a ≠ 1 then a else 0)
  else if 19 ≤ op ∧ op ≤ 21 then (if a = 2 then a else 0) else 0
def conR (x : Ex) (k n : Int) : Ex := if n < 0 then x else cmk k n
def rLeft (op : Int) (a : Ex) : Bool := ((op == 10 && a.n == 0) || (op == 8 && a.n == 1)) && a.kind == 1
def rKind (op : Int) (a b : Ex) : Int := if b.op = 1 then rBinF op a.kind b.kind else 0
def rTwo (x : Ex) (a b : Ex) : Ex :=
  if rKind x.op a b = 0 then x else if (rBin x.op a.n b.n).2.1 ≠ 0 then x else conR x (rKind x.op a b) (rBin x.op a.n b.n).1
def rTop (x : Ex) : Ex :=
  if x.op < 6 ∨ 21 < x.op then x else if (x.args.getD 0 ex0).op ≠ 1 then x
  else if x.op = 6 ∨ x.op = 7 then (if rUnF x.op (x.args.getD 0 ex0).kind = 0 then x else conR x (x.args.getD 0 ex0).kind (rUn x.op (x.args.getD 0 ex0).n).1)
  else if rLeft x.op (x.args.getD 0 ex0) then x.args.getD 0 ex0 else rTwo x (x.args.getD 0 ex0) (x.args.getD 1 ex0)
mutual
def Ex.rfold : Ex → Ex
  | ⟨op, kind, n, s, f, args⟩ => rTop ⟨op, kind, n, s, f, rfoldL args⟩
def rfoldL : List Ex → List Ex
  | [] => []
  | x :: xs => x.rfold :: rfoldL xs
end
theorem Ex.rfold_eq (x : Ex) : x.rfold = rTop { x with args := rfoldL x.args } := by cases x; rw [Ex.rfold]
theorem rfoldL_len (xs : List Ex) : (rfoldL xs).length = xs.length := by
  induction xs with
  | nil => rw [rfoldL]
  | cons x xs ih => rw [rfoldL, List.length_cons, ih, List.length_cons]
theorem rfoldL_at {xs : List Ex} {k : Nat} (h : k < xs.length) : (rfoldL xs).getD k ex0 = (xs.getD k ex0).rfold := by
  induction xs generalizing k with
  | nil => simp at h
  | cons x xs ih =>
    rw [rfoldL]
    cases k with
    | zero => simp [List.getD]
    | succ k =>
      have := ih (k := k) (by simpa using h)
      simp only [List.getD_eq_getElem?_getD, List.getElem?_cons_succ] at this ⊢
      exact this

/-! values -/
theorem tr_bd (b : Bool) : 0 ≤ tr b ∧ tr b ≤ 1 := by cases b <;> simp [tr]
theorem numb_bd (op v x : Int) : (numb op v x).1 ≤ 2147483647 := by
  unfold numb
  have h1 := (wr_bd (v + x)).2
  have h2 := (wr_bd (v - x)).2
  have h3 := (wr_bd (v * x)).2
  have h4 := (wr_bd (v.tdiv x)).2
  have h5 := (wr_bd (v.tmod x)).2
  repeat' split
  all_goals (try simp only []; try omega)
theorem cmp_bd (op v x : Int) : cmpOp op v x ≤ 1 := by
  unfold cmpOp
  repeat' split
  all_goals exact (tr_bd _).2
theorem logic_bd (op v x : Int) : logicOp op v x ≤ 1 := by
  unfold logicOp
  repeat' split
  all_goals omega
theorem bin_bd (op v x : Int) : (bin op v x).1 ≤ 2147483647 ∧ (op ≤ 16 → 8 ≤ op → (bin op v x).1 ≤ 1) := by
  unfold bin
  have h1 := numb_bd op v x
  have h2 := cmp_bd op v x
  have h3 := logic_bd op v x
  by_cases hl : 8 ≤ op ∧ op ≤ 10
  · rw [if_pos hl]
    split
    · exact ⟨by simp only []; omega, fun _ _ => h3⟩
    · exact ⟨by simp, fun _ _ => by simp⟩
  rw [if_neg hl]
  split
  · exact ⟨by simp, fun _ _ => by simp⟩
  by_cases hc : 11 ≤ op ∧ op ≤ 16
  · rw [if_pos hc]; exact ⟨by simp only []; omega, fun _ _ => h2⟩
  rw [if_neg hc]
  refine ⟨?_, fun a b => by omega⟩
  split
  · exact h1
  · simp
theorem un_bd (op v : Int) : (un op v).1 ≤ 2147483647 ∧ (op = 6 → (un op v).1 ≤ 1) := by
  unfold un
  by_cases h6 : op = 6
  · rw [if_pos h6]
    cases hb : bit v
    · simp
    · rcases bit_iff.1 hb with rfl | rfl <;> simp
  rw [if_neg h6]
  refine ⟨?_, fun h => absurd h h6⟩
  have := (wr_bd (-v)).2
  repeat' split
  all_goals (simp only []; omega)

theorem constB_iff {k n : Int} : constB k n = true ↔ (0 ≤ n ∧ n ≤ 2147483647 ∧ (k = 2 ∨ k = 3 ∨ (k = 1 ∧ n ≤ 1))) := by unfold constB; exact decide_eq_true_iff
theorem okB_parts {x : Ex} (h : okB x = true) : (x.op = 1 → constB x.kind x.n = true) ∧ arB x.op x.args.length = true := by
  unfold okB at h
  simp only [Bool.and_eq_true, Bool.or_eq_true, bne_iff_ne, ne_eq] at h
  exact ⟨fun e => by rcases h.1.1.1.2 with h1 | h1; exact absurd e h1; exact h1, h.1.1.2⟩
theorem arB_one {op : Int} {l : Nat} (h : arB op l = true) (h6 : op = 6 ∨ op = 7) : l = 1 := by
  unfold arB at h
  rw [if_neg (by omega), if_pos (by omega)] at h
  exact of_decide_eq_true h
theorem arB_two {op : Int} {l : Nat} (h : arB op l = true) (h6 : 8 ≤ op) : op ≤ 21 ∧ l = 2 := by
  unfold arB at h
  rw [if_neg (by omega), if_neg (by omega), if_neg (by omega)] at h
  split at h
  · exact ⟨by omega, of_decide_eq_true h⟩
  · cases h
theorem list1 {xs : List Ex} (h : xs.length = 1) : ∃ a, xs = [a] := by
  match xs, h with
  | [a], _ => exact ⟨a, rfl⟩
theorem list2 {xs : List Ex} (h : xs.length = 2) : ∃ a b, xs = [a, b] := by
  match xs, h with
  | [a, b], _ => exact ⟨a, b, rfl⟩

theorem rUn_same {op v : Int} (h : op = 6 ∧ bit v = true ∨ op = 7 ∧ isV v = true) : (rUn op v).1 = (un op v).1 := by
  rcases un_pair op v with ⟨r, h1, h2⟩ | ⟨r, h1, h2⟩
  · rw [h1, h2]
  · exfalso
    rcases h with ⟨rfl, hb⟩ | ⟨rfl, hb⟩
    · simp [un, hb] at h1
    · simp [un, hb] at h1
theorem rBin_same (op v x : Int) : (rBin op v x).1 = (bin op v x).1 ∧ (rBin op v x).2.1 = (bin op v x).2.1 := by
  rcases bin_pair op v x with ⟨r, f, h1, h2⟩ | ⟨h1, h2⟩ <;> rw [h1, h2] <;> exact ⟨rfl, rfl⟩

/-- a constant is one of those that can be written -/
def Gc (a : Ex) : Prop := a.op = 1 → constB a.kind a.n = true
theorem top_same {x : Ex} (har : arB x.op x.args.length = true) (hc : ∀ k, k < x.args.length → Gc (x.args.getD k ex0)) : topE x = rTop x := by
  unfold topE rTop
  by_cases h6 : x.op < 6
  · rw [if_pos h6, if_pos (.inl h6)]
  rw [if_neg h6]
  obtain ⟨op, kind, n, s, f, args⟩ := x
  simp only at *
  by_cases h67 : op = 6 ∨ op = 7
  · obtain ⟨a, rfl⟩ := list1 (arB_one har h67)
    have ga : Gc a := by have := hc 0 (by simp); simpa [List.getD] using this
    rw [if_neg (show ¬(op < 6 ∨ 21 < op) by omega)]
    simp only [List.getD_eq_getElem?_getD, List.getElem?_cons_zero, Option.getD_some]
    rw [if_neg (by unfold leftB; rcases h67 with rfl | rfl <;> simp)]
    by_cases ha : a.op = 1
    · rw [if_neg (by omega), if_pos h67]
      have gk := constB_iff.1 (ga ha)
      have e : cst 0 [a] = some a.kind := by simp [cst, ha]
      rw [e]
      simp only [midF]
      by_cases hr : rUnF op a.kind = 0
      · rw [if_pos hr, if_pos]
        right
        unfold rUnF at hr
        unfold resF
        rcases h67 with rfl | rfl
        · split at hr
          · omega
          · next h => rw [if_pos (by omega), if_neg (by omega)]
        · split at hr
          · omega
          · next h => simp; omega
      · rw [if_neg hr]
        have hk : op = 6 ∧ a.kind = 1 ∨ op = 7 ∧ a.kind = 2 := by
          unfold rUnF at hr
          split at hr
          · assumption
          · exact absurd rfl hr
        have hres : resF op a.kind = a.kind := by unfold resF; rcases hk with ⟨rfl, e⟩ | ⟨rfl, e⟩ <;> simp [e]
        rw [if_neg (by rw [hres]; omega), hres]
        have hv : (rUn op a.n).1 = (un op a.n).1 := rUn_same (by
          rcases hk with ⟨h, e⟩ | ⟨h, e⟩
          · exact .inl ⟨h, bit_iff.2 (by omega)⟩
          · exact .inr ⟨h, isV_iff.2 (by omega)⟩)
        rw [hv]
        unfold outF conR valF
        simp [List.getD]
    · rw [if_pos ha]
      have e : cst 0 [a] = none := by simp [cst, ha]
      rw [e]
      rfl
  · have h8 : 8 ≤ op := by omega
    obtain ⟨h21, hl2⟩ := arB_two har h8
    obtain ⟨a, b, rfl⟩ := list2 hl2
    have ga : Gc a := by have := hc 0 (by simp); simpa [List.getD] using this
    have gb : Gc b := by have := hc 1 (by simp); simpa [List.getD] using this
    rw [if_neg (show ¬(op < 6 ∨ 21 < op) by omega)]
    simp only [List.getD_eq_getElem?_getD, List.getElem?_cons_zero, List.getElem?_cons_succ, Option.getD_some]
    by_cases ha : a.op = 1
    · rw [if_neg (by omega : ¬ a.op ≠ 1), if_neg h67]
      have gk := constB_iff.1 (ga ha)
      have hle : leftB op a = rLeft op a := by
        unfold leftB rLeft
        rw [ha]
        by_cases h1 : a.kind = 1
        · have hn : a.n = 0 ∨ a.n = 1 := by omega
          rw [h1]
          by_cases e8 : op = 8
          · subst e8; rcases hn with e | e <;> rw [e] <;> decide
          by_cases e10 : op = 10
          · subst e10; rcases hn with e | e <;> rw [e] <;> decide
          rw [beq_eq_false_iff_ne.2 e8, beq_eq_false_iff_ne.2 e10]; simp
        · rw [beq_eq_false_iff_ne.2 h1]; simp
      rw [hle]
      by_cases hr : rLeft op a = true
      · rw [if_pos hr, if_pos hr]
      rw [if_neg hr, if_neg hr]
      unfold rTwo
      simp only
      by_cases hb : b.op = 1
      · by_cases hk : b.kind = a.kind
        · have e : cst 0 [a, b] = some b.kind := by simp [cst, ha, hb, hk]
          rw [e]
          simp only [midF]
          have hrk : rKind op a b = resF op b.kind := by
            unfold rKind rBinF resF
            rw [if_pos hb, hk]
            have hgk : a.kind = 1 ∨ a.kind = 2 ∨ a.kind = 3 := by omega
            generalize a.kind = q at hgk
            have : op = 8 ∨ op = 9 ∨ op = 10 ∨ op = 11 ∨ op = 12 ∨ op = 13 ∨ op = 14 ∨ op = 15 ∨ op = 16 ∨ op = 17 ∨ op = 18 ∨ op = 19 ∨ op = 20 ∨ op = 21 := by omega
            rcases hgk with rfl | rfl | rfl <;> rcases this with rfl | rfl | rfl | rfl | rfl | rfl | rfl | rfl | rfl | rfl | rfl | rfl | rfl | rfl <;> decide
          rw [hrk, (rBin_same op a.n b.n).1, (rBin_same op a.n b.n).2]
          by_cases h0 : resF op b.kind = 0
          · rw [if_pos (.inr h0), if_pos h0]
          · rw [if_neg (by omega), if_neg h0]
            unfold outF conR valF
            simp only [List.length_cons, List.length_nil, List.getD_eq_getElem?_getD, List.getElem?_cons_zero, List.getElem?_cons_succ, Option.getD_some]
            rw [if_neg (show ¬ (0 + 1 + 1 = 1) by omega)]
            simp only []
            by_cases hf : (bin op a.n b.n).2.1 ≠ 0
            · rw [if_pos (.inl hf), if_pos hf]
            · rw [if_neg hf]
              by_cases hn : (bin op a.n b.n).1 < 0
              · rw [if_pos (.inr hn), if_pos hn]
              · rw [if_neg (by simp only [not_or]; exact ⟨hf, hn⟩), if_neg hn]
        · have e : cst 0 [a, b] = none := by
            have hz : a.kind ≠ 0 := by omega
            simp [cst, ha, hb, hk, hz]
          rw [e, if_pos]
          · rfl
          · unfold rKind rBinF
            rw [if_pos hb, if_pos (.inl (fun e => hk e.symm))]
      · have e : cst 0 [a, b] = none := by simp [cst, ha, hb]
        rw [e, if_pos]
        · rfl
        · unfold rKind; rw [if_neg hb]
    · rw [if_neg (by unfold leftB; simp [ha]), if_pos ha]
      have e : cst 0 [a, b] = none := by simp [cst, ha]
      rw [e]
      rfl
end Go.Proofs.Ytmkpoaapcghohaa
