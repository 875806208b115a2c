/- Plain laws: a folded expression is well formed, no greater, and stays as it is. -/
import Derived.Test.YtmkpoaapcghohaaFoldP
namespace Go.Proofs.Ytmkpoaapcghohaa
open Go.RowKit

theorem top_cases (x : Ex) : topE x = x ∨ (topE x = x.args.getD 0 ex0 ∧ 6 ≤ x.op) ∨ (∃ k n, topE x = cmk (resF x.op k) n ∧ 6 ≤ x.op ∧ resF x.op k ≠ 0 ∧ 0 ≤ n ∧ n = (valF x.op x.args).1) := by
  unfold topE
  by_cases h6 : x.op < 6
  · rw [if_pos h6]; exact .inl rfl
  rw [if_neg h6]
  by_cases hl : leftB x.op (x.args.getD 0 ex0) = true
  · rw [if_pos hl]; exact .inr (.inl ⟨rfl, by omega⟩)
  rw [if_neg hl]
  cases cst 0 x.args with
  | none => exact .inl rfl
  | some k =>
    simp only [midF]
    by_cases hk : k = 0 ∨ resF x.op k = 0
    · rw [if_pos hk]; exact .inl rfl
    rw [if_neg hk]
    unfold outF
    by_cases hv : (valF x.op x.args).2 ≠ 0 ∨ (valF x.op x.args).1 < 0
    · rw [if_pos hv]; exact .inl rfl
    · rw [if_neg hv]
      exact .inr (.inr ⟨k, _, rfl, by omega, by omega, by omega, rfl⟩)

theorem resF_bd (op k : Int) (h : resF op k ≠ 0) : (resF op k = 2 ∨ resF op k = 3 ∨ resF op k = 1 ∧ (op = 6 ∨ (8 ≤ op ∧ op ≤ 16))) := by
  unfold resF at *
  repeat' split
  all_goals (simp only [*, if_true, if_false] at h)
  all_goals omega
theorem valF_bd {op : Int} {xs : List Ex} (har : arB op xs.length = true) : (valF op xs).1 ≤ 2147483647 ∧ ((op = 6 ∨ (8 ≤ op ∧ op ≤ 16)) → (valF op xs).1 ≤ 1) := by
  unfold valF
  by_cases h1 : xs.length = 1
  · rw [if_pos h1]
    have hu := un_bd op (xs.getD 0 ex0).n
    refine ⟨hu.1, fun h => ?_⟩
    rcases h with h | h
    · exact hu.2 h
    · have := (arB_two har h.1).2; omega
  · rw [if_neg h1]
    have hb := bin_bd op (xs.getD 0 ex0).n (xs.getD 1 ex0).n
    refine ⟨hb.1, fun h => ?_⟩
    rcases h with h | h
    · exact absurd (arB_one har (.inl h)) h1
    · exact hb.2 h.2 h.1
theorem cmk_ok {k n : Int} (h : constB k n = true) : (cmk k n).ok = true := by
  rw [Ex.ok_eq]
  have e : okB (cmk k n) = true := by
    unfold okB cmk
    simp [h, arB, nmB, namedOf, fieldOf]
    all_goals decide
  rw [e]
  unfold cmk
  rw [okL]; rfl
theorem okB_args (op kind n : Int) (s f : ByteArray) (xs ys : List Ex) (h : xs.length = ys.length) : okB ⟨op, kind, n, s, f, xs⟩ = okB ⟨op, kind, n, s, f, ys⟩ := by
  unfold okB; simp only [h]
theorem okL_at {xs : List Ex} (h : okL xs = true) {k : Nat} (hk : k < xs.length) : (xs.getD k ex0).ok = true := okL_iff.1 h k hk
theorem top_ok {x : Ex} (hx : okB x = true) (ha : okL x.args = true) : (topE x).ok = true := by
  have har := (okB_parts hx).2
  rcases top_cases x with h | ⟨h, h6⟩ | ⟨k, n, h, h6, hr, hn, hv⟩
  · rw [h, Ex.ok_eq, hx, ha]; rfl
  · rw [h]
    refine okL_at ha ?_
    by_cases h67 : x.op = 6 ∨ x.op = 7
    · have := arB_one har h67; omega
    · have := (arB_two har (by omega)).2; omega
  · rw [h]
    have hb := valF_bd har
    have hr2 := resF_bd _ _ hr
    refine cmk_ok (constB_iff.2 ⟨hn, by omega, ?_⟩)
    rcases hr2 with h1 | h1 | ⟨h1, h2⟩
    · exact .inl h1
    · exact .inr (.inl h1)
    · exact .inr (.inr ⟨h1, by have := hb.2 h2; omega⟩)
mutual
theorem fold_ok : (x : Ex) → x.ok = true → x.fold.ok = true
  | ⟨op, kind, n, s, f, args⟩, h => by
    rw [Ex.ok, Bool.and_eq_true] at h
    rw [Ex.fold]
    exact top_ok (by rw [okB_args op kind n s f _ args (foldL_len args)]; exact h.1) (foldL_ok args h.2)
theorem foldL_ok : (xs : List Ex) → okL xs = true → okL (foldL xs) = true
  | [], _ => by rw [foldL, okL]
  | x :: xs, h => by
    rw [okL, Bool.and_eq_true] at h
    rw [foldL, okL, fold_ok x h.1, foldL_ok xs h.2]; rfl
end
theorem gc_of {a : Ex} (h : a.ok = true) : Gc a := by
  rw [Ex.ok_eq, Bool.and_eq_true] at h
  exact (okB_parts h.1).1
mutual
theorem fold_same : (x : Ex) → x.ok = true → x.fold = x.rfold
  | ⟨op, kind, n, s, f, args⟩, h => by
    rw [Ex.ok, Bool.and_eq_true] at h
    rw [Ex.fold, Ex.rfold, ← foldL_same args h.2]
    have hl := foldL_ok args h.2
    refine top_same (x := ⟨op, kind, n, s, f, foldL args⟩) ?_ (fun k hk => gc_of (okL_at hl hk))
    have := (okB_parts h.1).2
    simp only [foldL_len]; exact this
theorem foldL_same : (xs : List Ex) → okL xs = true → foldL xs = rfoldL xs
  | [], _ => by rw [foldL, rfoldL]
  | x :: xs, h => by
    rw [okL, Bool.and_eq_true] at h
    rw [foldL, rfoldL, fold_same x h.1, foldL_same xs h.2]
end
theorem cmk_fold (k n : Int) : (cmk k n).fold = cmk k n := by
  rw [Ex.fold_eq]
  have e : ({ cmk k n with args := foldL (cmk k n).args } : Ex) = cmk k n := by unfold cmk; rw [foldL]
  rw [e]
  unfold topE cmk
  rw [if_pos (show (1 : Int) < 6 by decide)]
theorem ex0_fold : ex0.fold = ex0 := by
  rw [Ex.fold_eq]
  have e : ({ ex0 with args := foldL ex0.args } : Ex) = ex0 := by unfold ex0; rw [foldL]
  rw [e]
  unfold topE ex0
  rw [if_pos (by decide)]
mutual
theorem fold_idem : (x : Ex) → x.fold.fold = x.fold
  | ⟨op, kind, n, s, f, args⟩ => by
    rw [Ex.fold]
    have hi := foldL_idem args
    generalize hy : (⟨op, kind, n, s, f, foldL args⟩ : Ex) = y
    have hya : foldL y.args = y.args := by rw [← hy]; exact hi
    rcases top_cases y with h | ⟨h, _⟩ | ⟨k, m, h, _⟩
    · rw [h, Ex.fold_eq, hya]; cases y; exact h
    · rw [h]
      by_cases hl : 0 < y.args.length
      · rw [← foldL_at hl, hya]
      · have : y.args = [] := List.eq_nil_of_length_eq_zero (by omega)
        rw [this]; exact ex0_fold
    · rw [h, cmk_fold]
theorem foldL_idem : (xs : List Ex) → foldL (foldL xs) = foldL xs
  | [] => by rw [foldL, foldL]
  | x :: xs => by rw [foldL, foldL, fold_idem x, foldL_idem xs]
end
theorem szL_at (xs : List Ex) (k : Nat) : (xs.getD k ex0).sz ≤ 1 + szL xs := by
  by_cases h : k < xs.length
  · have h1 := szTo_succ h
    have h2 := szTo_le xs (k + 1)
    omega
  · have e : xs.getD k ex0 = ex0 := by simp [List.getD, List.getElem?_eq_none (by omega : xs.length ≤ k)]
    rw [e]
    have : ex0.sz = 1 := by rw [Ex.sz_eq]; unfold ex0; rw [szL]
    omega
theorem htL_at (xs : List Ex) (k : Nat) : (xs.getD k ex0).ht ≤ 1 + htL xs := by
  by_cases h : k < xs.length
  · have := htL_ge h
    omega
  · have e : xs.getD k ex0 = ex0 := by simp [List.getD, List.getElem?_eq_none (by omega : xs.length ≤ k)]
    rw [e]
    have : ex0.ht = 1 := by rw [Ex.ht_eq]; unfold ex0; rw [htL]
    omega
theorem top_sz (x : Ex) : (topE x).sz ≤ x.sz := by
  rcases top_cases x with h | ⟨h, _⟩ | ⟨k, m, h, _⟩
  · rw [h]; omega
  · rw [h, x.sz_eq]; exact szL_at _ _
  · rw [h, x.sz_eq, Ex.sz_eq]; unfold cmk; rw [szL]; omega
theorem top_ht (x : Ex) : (topE x).ht ≤ x.ht := by
  rcases top_cases x with h | ⟨h, _⟩ | ⟨k, m, h, _⟩
  · rw [h]; omega
  · rw [h, x.ht_eq]; exact htL_at _ _
  · rw [h, x.ht_eq, Ex.ht_eq]; unfold cmk; rw [htL]; omega
mutual
theorem fold_sz : (x : Ex) → x.fold.sz ≤ x.sz
  | ⟨op, kind, n, s, f, args⟩ => by
    rw [Ex.fold]
    refine Nat.le_trans (top_sz _) ?_
    rw [Ex.sz, Ex.sz]
    have := foldL_sz args
    omega
theorem foldL_sz : (xs : List Ex) → szL (foldL xs) ≤ szL xs
  | [] => by rw [foldL]; omega
  | x :: xs => by
    rw [foldL, szL, szL]
    have h1 := fold_sz x
    have h2 := foldL_sz xs
    omega
end
mutual
theorem fold_ht : (x : Ex) → x.fold.ht ≤ x.ht
  | ⟨op, kind, n, s, f, args⟩ => by
    rw [Ex.fold]
    refine Nat.le_trans (top_ht _) ?_
    rw [Ex.ht, Ex.ht]
    have := foldL_ht args
    omega
theorem foldL_ht : (xs : List Ex) → htL (foldL xs) ≤ htL xs
  | [] => by rw [foldL]; omega
  | x :: xs => by
    rw [foldL, htL, htL]
    have h1 := fold_ht x
    have h2 := foldL_ht xs
    omega
end
theorem well_fold {x : Ex} (h : WellX x) : WellX x.fold := by
  have h1 := fold_ok x h.1
  have h2 := fold_sz x
  have h3 := fold_ht x
  have h4 := h.2
  exact ⟨h1, by omega, by omega⟩
end Go.Proofs.Ytmkpoaapcghohaa
