/- The law EvalAgain. -/
import Derived.Test.YtmkpoaapcghohaaLaw8
namespace Go.Proofs.Ytmkpoaapcghohaa
open Go.RowKit
theorem weigh_one {z : Ex} {A' : Option Addr} {c' : Nat} {w' : World} {p : Nat} (hx : XB p z A' c' w') (hp : p < w'.heap.size) (hf : Fits z c') (hr : Rds w' w'.heap.size z.args A') (h1 : z.sz ≤ 500) (h2 : z.ht ≤ 14) :
    Calls Try.prog 25 #[.slice (some ⟨p, 0, none⟩) 1 1, .int .i64 0] w' (fun e w'' => e = .returned (.int .i64 z.sz) ∧ w' = w'') := by
  have hrd : Rds w' w'.heap.size [z] (some ⟨p, 0, none⟩) := by
    unfold XB at hx
    obtain ⟨i0, i1, i2, i3, i4, i5⟩ := hx
    refine .sm [z] _ (fun _ => A') (fun _ => c') hp (fun i hi => ?_) (fun i hi => ?_) (fun i hi => ?_)
    · have hi0 : i = 0 := by simpa using hi
      subst hi0
      rw [addr0]
      simp only [List.getD_eq_getElem?_getD, List.getElem?_cons_zero, Option.getD_some]
      exact ⟨i0, i1, i2, i3, i4, i5⟩
    · have hi0 : i = 0 := by simpa using hi
      subst hi0; exact hf
    · have hi0 : i = 0 := by simpa using hi
      subst hi0
      exact hr
  have h := weigh25 hrd 0 1 w' (by omega) (by omega) (Same.refl _ _) (by simp) (by unfold maxLen; omega)
  refine h.mono ?_
  rintro e w'' ⟨r, he, hw, hok⟩
  have hs : szL [z] = z.sz := by rw [szL, szL]; omega
  have ht : htL [z] = z.ht := by rw [htL, htL]; omega
  have := hok (by omega) (by omega)
  exact ⟨by rw [he, this, hs], hw⟩
theorem bel1 {D : Nat} {a w : World} (h : Below D a w) (hD : D ≤ w.heap.size) (o : Obj) : Below D a (w.alloc o) := h.alloc hD o
theorem bel2 {D : Nat} {a w : World} (h : Below D a w) (hD : D ≤ w.heap.size) (o o' : Obj) : Below D a ((w.alloc o).alloc o') := (h.alloc hD o).alloc (Nat.le_trans hD (by simp)) o'
theorem XB.new2 (w : World) (o : Obj) (x : Ex) (A : Option Addr) (c : Nat) : XB (w.heap.size + 1) x A c ((w.alloc o).alloc (.cells #[.int .i64 x.op, .int .i64 x.kind, .int .i64 x.n, .string x.s, .string x.f, .slice A x.args.length c] 49)) := by
  have h := XB.new (w.alloc o) x A c
  rw [show (w.alloc o).heap.size = w.heap.size + 1 by simp] at h
  exact h
theorem XB.under (w : World) (o : Obj) (x : Ex) (A : Option Addr) (c : Nat) : XB w.heap.size x A c ((w.alloc (.cells #[.int .i64 x.op, .int .i64 x.kind, .int .i64 x.n, .string x.s, .string x.f, .slice A x.args.length c] 49)).alloc o) :=
  (XB.new w x A c).below ((Below.refl _ _).alloc (Nat.le_refl _) o) (by simp)
theorem lt1 (w : World) (o : Obj) : w.heap.size < (w.alloc o).heap.size := by simp
theorem lt2 (w : World) (o o' : Obj) : w.heap.size + 1 < ((w.alloc o).alloc o').heap.size := by simp
theorem lt3 (w : World) (o o' : Obj) : w.heap.size < ((w.alloc o).alloc o').heap.size := by simp; omega
set_option maxHeartbeats 8000000 in
theorem law9 (x : Ex) (A : Option Addr) (c : Nat) (W : World) (hf : Fits x c) (hr : Rds W W.heap.size x.args A) : Calls Try.prog 9 #[(Value.agg #[.int .i64 x.op, .int .i64 x.kind, .int .i64 x.n, .string x.s, .string x.f, .slice A x.args.length c])] W (TrueBelow W) := by
  obtain ⟨W1, hW1⟩ : ∃ W1, W1 = W.alloc (.cells #[.int .i64 x.op, .int .i64 x.kind, .int .i64 x.n, .string x.s, .string x.f, .slice A x.args.length c] 49) := ⟨_, rfl⟩
  have HB1 : Hid (Below W.heap.size W W1) := hid (by rw [hW1]; exact (Below.refl _ _).alloc (Nat.le_refl _) _)
  have hz1 : W.heap.size < W1.heap.size := by rw [hW1]; simp
  have HX1 : Hid (XB W.heap.size x A c W1) := hid (by rw [hW1]; exact XB.new _ _ _ _)
  have hr1 : Rds W1 W1.heap.size x.args A := hr.to (Same.of_below HB1.out (Nat.le_refl _)) HB1.out.size
  obtain ⟨W2, hW2⟩ : ∃ W2, W2 = W1.alloc (.cells #[.int .i64 x.op, .int .i64 x.kind, .int .i64 x.n, .string x.s, .string x.f, .slice A x.args.length c] 49) := ⟨_, rfl⟩
  have HB2 : Hid (Below W1.heap.size W1 W2) := hid (by rw [hW2]; exact (Below.refl _ _).alloc (Nat.le_refl _) _)
  have HX2 : Hid (XB W.heap.size x A c W2) := hid (HX1.out.below HB2.out hz1)
  have hz2 : W1.heap.size < W2.heap.size := by rw [hW2]; simp
  have hr2 : Rds W2 W2.heap.size x.args A := hr1.to (Same.of_below HB2.out (Nat.le_refl _)) HB2.out.size
  have HE25 : Hid (Calls Try.prog 25 #[.slice (some ⟨W1.heap.size, 0, none⟩) 1 1, .int .i64 0] W2 (WSays 0 [x] W2)) := hid (by
    have h := rds_one hf hr1
    rw [← hW2] at h
    exact weigh25 h 0 1 W2 (by omega) (by omega) (Same.refl _ _) (by simp) (by unfold maxLen; omega))
  have HE26 := hid (foldTop26 x A c W2 hf hr2)
  have HE26b : Hid (∀ A2 c2 w3 w', FoldGot x.fold W2 w3 A2 c2 → Below w3.heap.size w3 w' → Calls Try.prog 26 #[(Value.agg #[.int .i64 x.fold.op, .int .i64 x.fold.kind, .int .i64 x.fold.n, .string x.fold.s, .string x.fold.f, .slice A2 x.fold.args.length c2])] w' (Fold26Says x.fold w')) := hid (fun A2 c2 w3 w' hg hb =>
    foldTop26 x.fold A2 c2 w' hg.f (((hg.r.to (fun k hk => hb.block k hk.2) (fun k hk => Nat.lt_of_lt_of_le hk.2 hb.size)).rds (fun k hk => hk))))
  have HR2 := hid hr2
  have HBW : Hid (Below W.heap.size W W2) := hid (HB1.out.trans (HB2.out.mono (by omega)))
  have HF := hid hf
  clear hf hr hr1 hr2 HB2
  obtain ⟨b0, b1, b2, b3, b4, b5⟩ := HX1.out
  go_enter Try.func9, Try.ntmps9
  go_upto_region 1 with fail
  rw [← hW1]
  clear hW1
  go_wp2_with fail
  rw [← hW2]
  clear hW2 b0 b1 b2 b3 b4 b5 HX1 HB1
  refine HE25.out.mono ?_
  rintro e w2 ⟨r, rfl, hw2, _⟩
  rw [← hw2]
  clear hw2 HE25
  obtain ⟨b0, b1, b2, b3, b4, b5⟩ := HX2.out
  by_cases hrr : 2000 < r
  · go_wp2_with (first | (go_at_call 14; refine (awake14 _).mono ?_; rintro e w3 ⟨rfl, hb⟩))
    go_ret
    exact ⟨rfl, HBW.out.trans (hb.mono HBW.out.size)⟩
  · go_wp2_with fail
    refine HE26.out.mono ?_
    clear HE26
    rintro e w3 (⟨hw, rfl, hb3⟩ | ⟨hw, A2, c2, rfl, hgot⟩)
    · obtain ⟨W4, hW4⟩ : ∃ W4, W4 = w3.alloc (.cells #[.int .i64 0, .int .i64 0, .int .i64 0, .string ⟨#[]⟩, .string ⟨#[]⟩, .slice none 0 0] 49) := ⟨_, rfl⟩
      have HB4 : Hid (Below W.heap.size W W4) := hid (HBW.out.trans (by rw [hW4]; exact (hb3.mono HBW.out.size).alloc (Nat.le_trans HBW.out.size hb3.size) _))
      have HX3 := hid (HX2.out.below hb3 (by omega))
      clear hb3 HX2 HE26b HR2 b0 b1 b2 b3 b4 b5
      obtain ⟨b0, b1, b2, b3, b4, b5⟩ := HX3.out
      go_upto_region 4 with fail
      rw [← hW4]
      clear hW4
      go_wp2_with (first | (go_at_call 14; refine (awake14 _).mono ?_; rintro e w7 ⟨rfl, hb7⟩))
      go_ret
      exact ⟨rfl, HB4.out.trans (hb7.mono HB4.out.size)⟩
    · have hb3 := hgot.b
      obtain ⟨W4, hW4⟩ : ∃ W4, W4 = w3.alloc (.cells #[.int .i64 x.fold.op, .int .i64 x.fold.kind, .int .i64 x.fold.n, .string x.fold.s, .string x.fold.f, .slice A2 x.fold.args.length c2] 49) := ⟨_, rfl⟩
      have HB34 : Hid (Below w3.heap.size w3 W4) := hid (by rw [hW4]; exact (Below.refl _ _).alloc (Nat.le_refl _) _)
      have HB4 : Hid (Below W2.heap.size W2 W4) := hid (hb3.trans (HB34.out.mono hb3.size))
      have HX3 := hid (HX2.out.below hb3 (by omega))
      have HX4 := hid (HX2.out.below HB4.out (by omega))
      have HY4 : Hid (XB w3.heap.size x.fold A2 c2 W4) := hid (by rw [hW4]; exact XB.new _ _ _ _)
      have hz4 : w3.heap.size < W4.heap.size := by rw [hW4]; simp
      have hz3 := hb3.size
      have HG := hid hgot
      have hwx := wellX_of hw
      have HE := hid (HE26b.out A2 c2 w3 W4 hgot HB34.out)
      have HWF : Hid (wellB x.fold = true) := hid (wellB_true (well_fold hwx))
      have HID : Hid (x.fold.fold = x.fold) := hid (fold_idem x)
      have HSZ : Hid (x.fold.sz ≤ x.sz ∧ x.sz ≤ 500 ∧ x.ht ≤ 14 ∧ x.fold.ht ≤ x.ht) := hid ⟨fold_sz x, by have := hwx.2.2; omega, by have := hwx.2.1; omega, fold_ht x⟩
      clear HE26b HX2 hb3 hgot b0 b1 b2 b3 b4 b5 hwx
      unfold Fold26Says at HE
      rw [HID.out] at HE
      generalize x.fold = y at *
      obtain ⟨b0, b1, b2, b3, b4, b5⟩ := HX3.out
      go_upto_region 4 with fail
      rw [← hW4]
      clear hW4 b0 b1 b2 b3 b4 b5
      obtain ⟨b0, b1, b2, b3, b4, b5⟩ := HX4.out
      obtain ⟨y0, y1, y2, y3, y4, y5⟩ := HY4.out
      go_wp2_with fail
      refine HE.out.mono ?_
      rintro e w5 hE
      rcases hE with ⟨hno, _, _⟩ | ⟨_, A3, c3, rfl, hg5⟩
      · have := HWF.out; rw [hno] at this; cases this
      have hb5 := hg5.b
      obtain ⟨W6, hW6⟩ : ∃ W6, W6 = w5.alloc (.cells #[.int .i64 y.op, .int .i64 y.kind, .int .i64 y.n, .string y.s, .string y.f, .slice A3 y.args.length c3] 49) := ⟨_, rfl⟩
      have HB56 : Hid (Below w5.heap.size w5 W6) := hid (by rw [hW6]; exact (Below.refl _ _).alloc (Nat.le_refl _) _)
      have hz5 := hb5.size
      have hz6 : w5.heap.size < W6.heap.size := by rw [hW6]; simp
      have HB46 : Hid (Below W4.heap.size W4 W6) := hid (hb5.trans (HB56.out.mono hz5))
      have HZ6 : Hid (XB w5.heap.size y A3 c3 W6) := hid (by rw [hW6]; exact XB.new _ _ _ _)
      have HX6 := hid (HX4.out.below HB46.out (by omega))
      have HY6 := hid (HY4.out.below HB46.out hz4)
      have HBW6 : Hid (Below W.heap.size W W6) := hid (HBW.out.trans ((HB4.out.trans (HB46.out.mono HB4.out.size)).mono HBW.out.size))
      have hr6 : Rds W6 W6.heap.size x.args A := HR2.out.to (Same.of_below (HB4.out.trans (HB46.out.mono HB4.out.size)) (Nat.le_refl _)) (by omega)
      have hb36 : Below w3.heap.size w3 W6 := HB34.out.trans (HB46.out.mono (by omega))
      have hry : Rds W6 W6.heap.size y.args A2 := (HG.out.r.to (fun k hk => hb36.block k hk.2) (fun k hk => Nat.lt_of_lt_of_le hk.2 hb36.size)).rds (fun k hk => hk)
      have hrz : Rds W6 W6.heap.size y.args A3 := (hg5.r.to (fun k hk => HB56.out.block k hk.2) (fun k hk => Nat.lt_trans hk.2 hz6)).rds (fun k hk => hk)
      have HRD := hid (And.intro hr6 (And.intro hry hrz))
      clear hr6 hb36 hry hrz hg5 hb5 HX3 HX4 HY4 HB4 HB34 HB46 HB56 HE HR2 b0 b1 b2 b3 b4 b5 y0 y1 y2 y3 y4 y5
      have HWo : Hid (∀ (z : Ex) (A' : Option Addr) (c' : Nat) (w' : World) (p : Nat), Fits z c' → z.sz ≤ 500 → z.ht ≤ 14 → Rds W6 W6.heap.size z.args A' → Below W6.heap.size W6 w' → XB p z A' c' w' → p < w'.heap.size →
          Calls Try.prog 25 #[.slice (some ⟨p, 0, none⟩) 1 1, .int .i64 0] w' (fun e w'' => e = .returned (.int .i64 z.sz) ∧ w' = w'')) := hid (fun z A' c' w' p hf h1 h2 hr hb hx hp => weigh_one hx hp hf (hr.to (Same.of_below hb (Nat.le_refl _)) hb.size) h1 h2)
      have HFy : Hid (Fits y c2) := hid HG.out.f
      have h500 : y.sz ≤ 500 := by have := HSZ.out; omega
      have h500x := HSZ.out.2.1
      have h14x := HSZ.out.2.2.1
      have h14 : y.ht ≤ 14 := by have := HSZ.out; omega
      have hsz : (y.sz : Int) ≤ (x.sz : Int) := by have := HSZ.out; omega
      have HWy : Hid (∀ (w' : World) (p : Nat), Below W6.heap.size W6 w' → XB p y A2 c2 w' → p < w'.heap.size → Calls Try.prog 25 #[.slice (some ⟨p, 0, none⟩) 1 1, .int .i64 0] w' (fun e w'' => e = .returned (.int .i64 y.sz) ∧ w' = w'')) :=
        hid (fun w' p hb hx hp => HWo.out y A2 c2 w' p HFy.out h500 h14 HRD.out.2.1 hb hx hp)
      have HWx : Hid (∀ (w' : World) (p : Nat), Below W6.heap.size W6 w' → XB p x A c w' → p < w'.heap.size → Calls Try.prog 25 #[.slice (some ⟨p, 0, none⟩) 1 1, .int .i64 0] w' (fun e w'' => e = .returned (.int .i64 x.sz) ∧ w' = w'')) :=
        hid (fun w' p hb hx hp => HWo.out x A c w' p HF.out h500x h14x HRD.out.1 hb hx hp)
      have HE28 : Hid (Calls Try.prog 28 #[(Value.agg #[.int .i64 y.op, .int .i64 y.kind, .int .i64 y.n, .string y.s, .string y.f, .slice A2 y.args.length c2]), (Value.agg #[.int .i64 y.op, .int .i64 y.kind, .int .i64 y.n, .string y.s, .string y.f, .slice A3 y.args.length c3])] W6.drew (TrueBelow W6.drew)) := hid (sameAny W6.drew y A2 A3 c2 c3 HFy.out (HRD.out.2.1.to (fun _ _ => rfl) (Nat.le_refl _)) (HRD.out.2.2.to (fun _ _ => rfl) (Nat.le_refl _)))
      have HK : Hid (∀ w', Below W6.heap.size W6 w' → w'.cell? ⟨W.heap.size, 0, none⟩ = some (.int .i64 x.op) ∧ w'.cell? ⟨W.heap.size, 1, none⟩ = some (.int .i64 x.kind) ∧ w'.cell? ⟨W.heap.size, 2, none⟩ = some (.int .i64 x.n) ∧ w'.cell? ⟨W.heap.size, 3, none⟩ = some (.string x.s) ∧ w'.cell? ⟨W.heap.size, 4, none⟩ = some (.string x.f) ∧ w'.cell? ⟨W.heap.size, 5, none⟩ = some (.slice A x.args.length c) ∧ w'.cell? ⟨w3.heap.size, 0, none⟩ = some (.int .i64 y.op) ∧ w'.cell? ⟨w3.heap.size, 1, none⟩ = some (.int .i64 y.kind) ∧ w'.cell? ⟨w3.heap.size, 2, none⟩ = some (.int .i64 y.n) ∧ w'.cell? ⟨w3.heap.size, 3, none⟩ = some (.string y.s) ∧ w'.cell? ⟨w3.heap.size, 4, none⟩ = some (.string y.f) ∧ w'.cell? ⟨w3.heap.size, 5, none⟩ = some (.slice A2 y.args.length c2) ∧ w'.cell? ⟨w5.heap.size, 0, none⟩ = some (.int .i64 y.op) ∧ w'.cell? ⟨w5.heap.size, 1, none⟩ = some (.int .i64 y.kind) ∧ w'.cell? ⟨w5.heap.size, 2, none⟩ = some (.int .i64 y.n) ∧ w'.cell? ⟨w5.heap.size, 3, none⟩ = some (.string y.s) ∧ w'.cell? ⟨w5.heap.size, 4, none⟩ = some (.string y.f) ∧ w'.cell? ⟨w5.heap.size, 5, none⟩ = some (.slice A3 y.args.length c3)) := hid (fun w' hb => by
        have h1 := HX6.out.below hb (show W.heap.size < W6.heap.size by omega)
        have h2 := HY6.out.below hb (show w3.heap.size < W6.heap.size by omega)
        have h3 := HZ6.out.below hb hz6
        unfold XB at h1 h2 h3
        obtain ⟨i0, i1, i2, i3, i4, i5⟩ := h1
        obtain ⟨j0, j1, j2, j3, j4, j5⟩ := h2
        exact ⟨i0, i1, i2, i3, i4, i5, j0, j1, j2, j3, j4, j5, h3⟩)
      clear HWo HRD HG h500 h500x h14x h14 HSZ HWF HID
      obtain ⟨b0, b1, b2, b3, b4, b5⟩ := HX6.out
      obtain ⟨y0, y1, y2, y3, y4, y5⟩ := HY6.out
      obtain ⟨z0, z1, z2, z3, z4, z5⟩ := HZ6.out
      have HBd : Below W6.heap.size W6 W6.drew := (Below.refl _ _).drew
      go_upto_region 7 with fail
      rw [← hW6]
      clear hW6
      go_region_held3 (fun w' => w'.cell? ⟨W.heap.size, 0, none⟩ = some (.int .i64 x.op) ∧ w'.cell? ⟨W.heap.size, 1, none⟩ = some (.int .i64 x.kind) ∧ w'.cell? ⟨W.heap.size, 2, none⟩ = some (.int .i64 x.n) ∧ w'.cell? ⟨W.heap.size, 3, none⟩ = some (.string x.s) ∧ w'.cell? ⟨W.heap.size, 4, none⟩ = some (.string x.f) ∧ w'.cell? ⟨W.heap.size, 5, none⟩ = some (.slice A x.args.length c) ∧ w'.cell? ⟨w3.heap.size, 0, none⟩ = some (.int .i64 y.op) ∧ w'.cell? ⟨w3.heap.size, 1, none⟩ = some (.int .i64 y.kind) ∧ w'.cell? ⟨w3.heap.size, 2, none⟩ = some (.int .i64 y.n) ∧ w'.cell? ⟨w3.heap.size, 3, none⟩ = some (.string y.s) ∧ w'.cell? ⟨w3.heap.size, 4, none⟩ = some (.string y.f) ∧ w'.cell? ⟨w3.heap.size, 5, none⟩ = some (.slice A2 y.args.length c2) ∧ w'.cell? ⟨w5.heap.size, 0, none⟩ = some (.int .i64 y.op) ∧ w'.cell? ⟨w5.heap.size, 1, none⟩ = some (.int .i64 y.kind) ∧ w'.cell? ⟨w5.heap.size, 2, none⟩ = some (.int .i64 y.n) ∧ w'.cell? ⟨w5.heap.size, 3, none⟩ = some (.string y.s) ∧ w'.cell? ⟨w5.heap.size, 4, none⟩ = some (.string y.f) ∧ w'.cell? ⟨w5.heap.size, 5, none⟩ = some (.slice A3 y.args.length c3)) (first | go_keep | (refine HK.out _ ?_; first | assumption | (with_reducible first | exact bel1 hB7 hle7 _ | exact bel2 hB7 hle7 _ _)))
        (first
          | (go_at_call 28; refine HE28.out.mono ?_; rintro e w7 ⟨rfl, hb7⟩; have hB7 := HBd.trans hb7; have hle7 := hB7.size)
          | (go_at_call 25; refine Calls.mono (HWy.out _ _ ?_ ?_ ?_) ?_; (with_reducible first | exact bel1 hB7 hle7 _ | exact bel2 hB7 hle7 _ _); (with_reducible first | exact XB.new _ _ _ _ | exact XB.new2 _ _ _ _ _ | exact XB.under _ _ _ _ _); (with_reducible first | exact lt1 _ _ | exact lt2 _ _ _ | exact lt3 _ _ _); rintro e w8 ⟨rfl, rfl⟩)
          | (go_at_call 25; refine Calls.mono (HWx.out _ _ ?_ ?_ ?_) ?_; (with_reducible first | exact bel1 hB7 hle7 _ | exact bel2 hB7 hle7 _ _); (with_reducible first | exact XB.new _ _ _ _ | exact XB.new2 _ _ _ _ _ | exact XB.under _ _ _ _ _); (with_reducible first | exact lt1 _ _ | exact lt2 _ _ _ | exact lt3 _ _ _); rintro e w8 ⟨rfl, rfl⟩)
          | (go_at_call 14; refine (awake14 _).mono ?_; rintro e w9 ⟨rfl, hb9⟩; have hB9 := (bel2 hB7 hle7 _ _).trans (hb9.mono (bel2 hB7 hle7 _ _).size)))
      all_goals
        have hfin : Hid (Below W.heap.size W w9) := hid (HBW6.out.trans (hB9.mono HBW6.out.size))
        clear hB9 hb9 hB7 hb7 HK HE28
        go_wp2
        go_ret
        exact ⟨rfl, hfin.out⟩
end Go.Proofs.Ytmkpoaapcghohaa
