/- The law EvalFolds. -/
import Derived.Test.YtmkpoaapcghohaaFoldY
import Derived.Test.YtmkpoaapcghohaaAwake
namespace Go.Proofs.Ytmkpoaapcghohaa
open Go.RowKit
theorem refAll (m : Nat) : ∀ x : Ex, x.sz ≤ m → x.sz ≤ 1000 → x.ok = true → ∀ (w : World) (B : Nat) (A : Option Addr) (c : Nat), Fits x c → Rds w B x.args A → RefDo w B x A c := by
  induction m with
  | zero => intro x h; have := x.sz_pos; omega
  | succ m ih =>
    intro x h h1 hok w B A c hf hr
    have hl := szL_ge x.args
    have hs := x.sz_eq
    refine ref29 w B x A c hf hr hok (by omega) (fun k hk A' c' hf' hr' => ?_)
    have hc := child_sz hk
    refine ih _ (by omega) (by omega) ?_ w B A' c' hf' hr'
    have := hok
    rw [Ex.ok_eq, Bool.and_eq_true] at this
    exact okL_at this.2 hk

/-- a slice of one expression that was just built -/
theorem rds_one {W : World} {x : Ex} {A : Option Addr} {c : Nat} (hf : Fits x c) (hr : Rds W W.heap.size x.args A) :
    Rds (W.alloc (.cells #[.int .i64 x.op, .int .i64 x.kind, .int .i64 x.n, .string x.s, .string x.f, .slice A x.args.length c] 49)) (W.heap.size + 1) [x] (some ⟨W.heap.size, 0, none⟩) := by
  refine .sm [x] _ (fun _ => A) (fun _ => c) (Nat.lt_succ_self _) (fun i hi => ?_) (fun i hi => ?_) (fun i hi => ?_)
  · have hi0 : i = 0 := by simpa using hi
    subst hi0
    rw [addr0]
    simp only [List.getD_eq_getElem?_getD, List.getElem?_cons_zero, Option.getD_some]
    exact ⟨by simp, by simp, by simp, by simp, by simp, by simp⟩
  · have hi0 : i = 0 := by simpa using hi
    subst hi0; exact hf
  · have hi0 : i = 0 := by simpa using hi
    subst hi0
    exact hr.to (Same.of_below ((Below.refl _ _).alloc (Nat.le_refl _) _) (Nat.le_refl _)) (by omega)
theorem sameAny (w : World) (y : Ex) (A A' : Option Addr) (c c' : Nat) (hf : Fits y c) (h : Rds w w.heap.size y.args A) (h' : Rds w w.heap.size y.args A') : Calls Try.prog 28 #[(Value.agg #[.int .i64 y.op, .int .i64 y.kind, .int .i64 y.n, .string y.s, .string y.f, .slice A y.args.length c]), (Value.agg #[.int .i64 y.op, .int .i64 y.kind, .int .i64 y.n, .string y.s, .string y.f, .slice A' y.args.length c'])] w (TrueBelow w) :=
  same28 w w.heap.size y A A' c c' hf (same43 h A' h') w (Same.refl _ _) (Nat.le_refl _)
/-! the law -/
def XB (b : Nat) (x : Ex) (A : Option Addr) (c : Nat) (w : World) : Prop := w.cell? ⟨b, 0, none⟩ = some (.int .i64 x.op) ∧ w.cell? ⟨b, 1, none⟩ = some (.int .i64 x.kind) ∧ w.cell? ⟨b, 2, none⟩ = some (.int .i64 x.n) ∧ w.cell? ⟨b, 3, none⟩ = some (.string x.s) ∧ w.cell? ⟨b, 4, none⟩ = some (.string x.f) ∧ w.cell? ⟨b, 5, none⟩ = some (.slice A x.args.length c)
theorem XB.below {b D : Nat} {x : Ex} {A : Option Addr} {c : Nat} {w w' : World} (h : XB b x A c w) (hb : Below D w w') (hD : b < D) : XB b x A c w' := by
  have e : ∀ i, w'.cell? ⟨b, i, none⟩ = w.cell? ⟨b, i, none⟩ := fun i => World.cell?_of_block (hb.block b hD)
  unfold XB; rw [e, e, e, e, e, e]; exact h
theorem XB.new (w : World) (x : Ex) (A : Option Addr) (c : Nat) : XB w.heap.size x A c (w.alloc (.cells #[.int .i64 x.op, .int .i64 x.kind, .int .i64 x.n, .string x.s, .string x.f, .slice A x.args.length c] 49)) := by unfold XB; simp

set_option maxHeartbeats 4000000 in
theorem law8 (x : Ex) (A : Option Addr) (c : Nat) (W : World) (hf : Fits x c) (hr : Rds W W.heap.size x.args A) : Calls Try.prog 8 #[(Value.agg #[.int .i64 x.op, .int .i64 x.kind, .int .i64 x.n, .string x.s, .string x.f, .slice A x.args.length c])] W (TrueBelow W) := by
  obtain ⟨W1, hW1⟩ : ∃ W1, W1 = W.alloc (.cells #[.int .i64 x.op, .int .i64 x.kind, .int .i64 x.n, .string x.s, .string x.f, .slice A x.args.length c] 49) := ⟨_, rfl⟩
  have HB1 : Hid (Below W.heap.size W W1) := hid (by rw [hW1]; exact (Below.refl _ _).alloc (Nat.le_refl _) _)
  have hz1 : W.heap.size < W1.heap.size := by rw [hW1]; simp
  have HX1 : Hid (XB W.heap.size x A c W1) := hid (by rw [hW1]; exact XB.new _ _ _ _)
  have hr1 : Rds W1 W1.heap.size x.args A := hr.to (Same.of_below HB1.out (Nat.le_refl _)) HB1.out.size
  obtain ⟨W2, hW2⟩ : ∃ W2, W2 = W1.alloc (.cells #[.int .i64 x.op, .int .i64 x.kind, .int .i64 x.n, .string x.s, .string x.f, .slice A x.args.length c] 49) := ⟨_, rfl⟩
  have HB2 : Hid (Below W1.heap.size W1 W2) := hid (by rw [hW2]; exact (Below.refl _ _).alloc (Nat.le_refl _) _)
  have HX2 : Hid (XB W.heap.size x A c W2) := hid (HX1.out.below HB2.out hz1)
  have hz2 : W1.heap.size < W2.heap.size := by rw [hW2]; simp
  have hr2 : Rds W2 W2.heap.size x.args A := hr1.to (Same.of_below HB2.out (Nat.le_refl _)) HB2.out.size
  have HE25 : Hid (Calls Try.prog 25 #[.slice (some ⟨W1.heap.size, 0, none⟩) 1 1, .int .i64 0] W2 (WSays 0 [x] W2)) := hid (by
    have h := rds_one hf hr1
    rw [← hW2] at h
    exact weigh25 h 0 1 W2 (by omega) (by omega) (Same.refl _ _) (by simp) (by unfold maxLen; omega))
  have HE26 := hid (foldTop26 x A c W2 hf hr2)
  have HE27 : Hid (∀ w', Below W2.heap.size W2 w' → Calls Try.prog 27 #[(Value.agg #[.int .i64 x.op, .int .i64 x.kind, .int .i64 x.n, .string x.s, .string x.f, .slice A x.args.length c])] w' (fun e w'' => e = .returned (.bool (wellB x)) ∧ Below w'.heap.size w' w'')) := hid (fun w' hb => well27 x A c w' hf (hr2.to (Same.of_below hb (Nat.le_refl _)) hb.size))
  have HE29 : Hid (wellB x = true → ∀ w', Below W2.heap.size W2 w' → Calls Try.prog 29 #[(Value.agg #[.int .i64 x.op, .int .i64 x.kind, .int .i64 x.n, .string x.s, .string x.f, .slice A x.args.length c])] w' (FoldSays x.fold w')) := hid (fun hw w' hb => by
    have hx := wellX_of hw
    have := hx.2.2
    rw [fold_same x hx.1]
    exact refAll x.sz x (Nat.le_refl _) (by omega) hx.1 W2 W2.heap.size A c hf hr2 w' (Same.of_below hb (Nat.le_refl _)) hb.size)
  have HBW : Hid (Below W.heap.size W W2) := hid (HB1.out.trans (HB2.out.mono (by omega)))
  clear hf hr hr1 hr2 HB2
  obtain ⟨b0, b1, b2, b3, b4, b5⟩ := HX1.out
  go_enter Try.func8, Try.ntmps8
  go_upto_region 1 with fail
  rw [← hW1]
  clear hW1
  go_wp2_with fail
  rw [← hW2]
  clear hW2 b0 b1 b2 b3 b4 b5 HX1 HB1
  refine HE25.out.mono ?_
  rintro e w2 ⟨r, rfl, hw2, _⟩
  rw [← hw2]
  clear hw2 HE25
  obtain ⟨b0, b1, b2, b3, b4, b5⟩ := HX2.out
  by_cases hrr : 2000 < r
  · go_wp2_with (first | (go_at_call 14; refine (awake14 _).mono ?_; rintro e w3 ⟨rfl, hb⟩))
    go_ret
    exact ⟨rfl, HBW.out.trans (hb.mono HBW.out.size)⟩
  · go_wp2_with fail
    refine HE26.out.mono ?_
    clear HE26
    rintro e w3 (⟨hw, rfl, hb3⟩ | ⟨hw, A2, c2, rfl, hgot⟩)
    · obtain ⟨W4, hW4⟩ : ∃ W4, W4 = w3.alloc (.cells #[.int .i64 0, .int .i64 0, .int .i64 0, .string ⟨#[]⟩, .string ⟨#[]⟩, .slice none 0 0] 49) := ⟨_, rfl⟩
      have HB4 : Hid (Below W2.heap.size W2 W4) := hid (by rw [hW4]; exact hb3.alloc hb3.size _)
      have HX3 := hid (HX2.out.below hb3 (by omega))
      have HX4 := hid (HX2.out.below HB4.out (by omega))
      have HY4 : Hid (XB w3.heap.size ex0 none 0 W4) := hid (by rw [hW4]; exact XB.new w3 ex0 none 0)
      have hz4 : w3.heap.size < W4.heap.size := by rw [hW4]; simp
      have HE27' := HE27.out W4 HB4.out
      rw [hw] at HE27'
      have HE := hid HE27'
      have HS28 : ∀ w' : World, Hid (Calls Try.prog 28 #[.agg #[.int .i64 0, .int .i64 0, .int .i64 0, .string ⟨#[]⟩, .string ⟨#[]⟩, .slice none 0 0], .agg #[.int .i64 0, .int .i64 0, .int .i64 0, .string ⟨#[]⟩, .string ⟨#[]⟩, .slice none 0 0]] w' (TrueBelow w')) := fun w' => hid (sameAny w' ex0 none none 0 0 ⟨Nat.zero_le _, Nat.zero_le _, Nat.le_refl _, Nat.zero_le _⟩ (.nl none) (.nl none))
      clear HE27' HE27 HE29 HX2 hb3 b0 b1 b2 b3 b4 b5
      obtain ⟨b0, b1, b2, b3, b4, b5⟩ := HX3.out
      go_upto_region 4 with fail
      rw [← hW4]
      clear hW4 b0 b1 b2 b3 b4 b5
      obtain ⟨b0, b1, b2, b3, b4, b5⟩ := HX4.out
      go_wp2_with fail
      refine HE.out.mono ?_
      rintro e w5 ⟨rfl, hb5⟩
      have HY5 := HY4.out.below hb5 hz4
      unfold XB ex0 at HY5
      simp only [List.length_nil] at HY5
      obtain ⟨y0, y1, y2, y3, y4, y5⟩ := HY5
      have HB5 := hid (HBW.out.trans (HB4.out.trans (hb5.mono HB4.out.size) |>.mono HBW.out.size))
      clear hb5 b0 b1 b2 b3 b4 b5
      go_wp2_with (first | (go_at_call 28; refine (HS28 _).out.mono ?_; rintro e w6 ⟨rfl, hb6⟩) | (go_at_call 14; refine (awake14 _).mono ?_; rintro e w7 ⟨rfl, hb7⟩))
      go_ret
      exact ⟨rfl, (HB5.out.trans (hb6.mono HB5.out.size)).trans (hb7.mono (Nat.le_trans HB5.out.size hb6.size))⟩
    · obtain ⟨W4, hW4⟩ : ∃ W4, W4 = w3.alloc (.cells #[.int .i64 x.fold.op, .int .i64 x.fold.kind, .int .i64 x.fold.n, .string x.fold.s, .string x.fold.f, .slice A2 x.fold.args.length c2] 49) := ⟨_, rfl⟩
      have hb3 := hgot.b
      have HB4 : Hid (Below W2.heap.size W2 W4) := hid (by rw [hW4]; exact hb3.alloc hb3.size _)
      have HB34 : Hid (Below w3.heap.size w3 W4) := hid (by rw [hW4]; exact (Below.refl _ _).alloc (Nat.le_refl _) _)
      have HX3 := hid (HX2.out.below hb3 (by omega))
      have HX4 := hid (HX2.out.below HB4.out (by omega))
      have HY4 : Hid (XB w3.heap.size x.fold A2 c2 W4) := hid (by rw [hW4]; exact XB.new _ _ _ _)
      have hz4 : w3.heap.size < W4.heap.size := by rw [hW4]; simp
      have HG := hid hgot
      have HE27' := HE27.out W4 HB4.out
      rw [hw] at HE27'
      have HE := hid HE27'
      have HE29' := hid (HE29.out hw)
      clear HE27' HE27 HE29 HX2 hb3 hgot b0 b1 b2 b3 b4 b5
      generalize x.fold = y at *
      obtain ⟨b0, b1, b2, b3, b4, b5⟩ := HX3.out
      go_upto_region 4 with fail
      rw [← hW4]
      clear hW4 b0 b1 b2 b3 b4 b5
      obtain ⟨b0, b1, b2, b3, b4, b5⟩ := HX4.out
      go_wp2_with fail
      refine HE.out.mono ?_
      rintro e w5 ⟨rfl, hb5⟩
      have hz5 := hb5.size
      have hz3 := HG.out.b.size
      have HY5 := hid (HY4.out.below hb5 hz4)
      have HX5 := hid (HX4.out.below hb5 (by omega))
      have HB5 := hid (HB4.out.trans (hb5.mono HB4.out.size))
      have HB35 := hid (HB34.out.trans (hb5.mono (by omega)))
      have HEr := hid (HE29'.out w5.drew HB5.out.drew)
      have HK : Hid (∀ w6, Below w5.drew.heap.size w5.drew w6 → w6.cell? ⟨W.heap.size, 0, none⟩ = some (.int .i64 x.op) ∧ w6.cell? ⟨W.heap.size, 1, none⟩ = some (.int .i64 x.kind) ∧ w6.cell? ⟨W.heap.size, 2, none⟩ = some (.int .i64 x.n) ∧ w6.cell? ⟨W.heap.size, 3, none⟩ = some (.string x.s) ∧ w6.cell? ⟨W.heap.size, 4, none⟩ = some (.string x.f) ∧ w6.cell? ⟨W.heap.size, 5, none⟩ = some (.slice A x.args.length c) ∧ w6.cell? ⟨w3.heap.size, 0, none⟩ = some (.int .i64 y.op) ∧ w6.cell? ⟨w3.heap.size, 1, none⟩ = some (.int .i64 y.kind) ∧ w6.cell? ⟨w3.heap.size, 2, none⟩ = some (.int .i64 y.n) ∧ w6.cell? ⟨w3.heap.size, 3, none⟩ = some (.string y.s) ∧ w6.cell? ⟨w3.heap.size, 4, none⟩ = some (.string y.f) ∧ w6.cell? ⟨w3.heap.size, 5, none⟩ = some (.slice A2 y.args.length c2)) := hid (fun w6 hb6 => by
        have hb6' : Below w5.heap.size w5 w6 := (Below.refl w5.heap.size w5).drew.trans hb6
        have h1 := HX5.out.below (w' := w6) hb6' (show W.heap.size < w5.heap.size by omega)
        have h2 := HY5.out.below (w' := w6) hb6' (show w3.heap.size < w5.heap.size by omega)
        unfold XB at h1 h2
        exact ⟨h1.1, h1.2.1, h1.2.2.1, h1.2.2.2.1, h1.2.2.2.2.1, h1.2.2.2.2.2, h2⟩)
      have HS28 : Hid (∀ w6 A3 c3, FoldGot y w5.drew w6 A3 c3 → Calls Try.prog 28 #[(Value.agg #[.int .i64 y.op, .int .i64 y.kind, .int .i64 y.n, .string y.s, .string y.f, .slice A2 y.args.length c2]), (Value.agg #[.int .i64 y.op, .int .i64 y.kind, .int .i64 y.n, .string y.s, .string y.f, .slice A3 y.args.length c3])] w6 (TrueBelow w6)) := hid (fun w6 A3 c3 hg => by
        have hb36 : Below w3.heap.size w3 w6 := HB35.out.drew.trans (hg.b.mono (show w3.heap.size ≤ w5.heap.size by omega))
        exact sameAny w6 y A2 A3 c2 c3 HG.out.f ((HG.out.r.to (fun k hk => hb36.block k hk.2) (fun k hk => Nat.lt_of_lt_of_le hk.2 hb36.size)).rds (fun k hk => hk)) (hg.r.rds (fun k hk => hk.2)))
      clear HX3 HX4 HY4 HB4 HB34 HE29' HE hb5 b0 b1 b2 b3 b4 b5
      obtain ⟨b0, b1, b2, b3, b4, b5⟩ := HX5.out
      obtain ⟨y0, y1, y2, y3, y4, y5⟩ := HY5.out
      go_wp2
      go_region_held3 (fun w' => w'.cell? ⟨W.heap.size, 0, none⟩ = some (.int .i64 x.op) ∧ w'.cell? ⟨W.heap.size, 1, none⟩ = some (.int .i64 x.kind) ∧ w'.cell? ⟨W.heap.size, 2, none⟩ = some (.int .i64 x.n) ∧ w'.cell? ⟨W.heap.size, 3, none⟩ = some (.string x.s) ∧ w'.cell? ⟨W.heap.size, 4, none⟩ = some (.string x.f) ∧ w'.cell? ⟨W.heap.size, 5, none⟩ = some (.slice A x.args.length c) ∧ w'.cell? ⟨w3.heap.size, 0, none⟩ = some (.int .i64 y.op) ∧ w'.cell? ⟨w3.heap.size, 1, none⟩ = some (.int .i64 y.kind) ∧ w'.cell? ⟨w3.heap.size, 2, none⟩ = some (.int .i64 y.n) ∧ w'.cell? ⟨w3.heap.size, 3, none⟩ = some (.string y.s) ∧ w'.cell? ⟨w3.heap.size, 4, none⟩ = some (.string y.f) ∧ w'.cell? ⟨w3.heap.size, 5, none⟩ = some (.slice A2 y.args.length c2)) (first | go_keep | exact HK.out _ (by assumption))
        (first | (go_at_call 29; refine HEr.out.mono ?_; rintro e w6 ⟨A3, c3, rfl, hg6⟩; have hb6 := hg6.b; have HE28 := hid (HS28.out w6 A3 c3 hg6)) | (go_at_call 28; refine HE28.out.mono ?_; rintro e w7 ⟨rfl, hb7'⟩; have hb7 := hb6.trans (hb7'.mono hb6.size)) | (go_at_call 14; refine (awake14 _).mono ?_; rintro e w8 ⟨rfl, hb8'⟩; have hb8 := hb7.trans (hb8'.mono hb7.size)))
      have hfin : Hid (Below W.heap.size W w8) := hid (HBW.out.trans ((HB5.out.drew.trans (hb8.mono HB5.out.size)).mono HBW.out.size))
      clear hb6 hb7 hb8 hb7' hb8' HK HS28
      go_wp2
      go_ret
      exact ⟨rfl, hfin.out⟩
end Go.Proofs.Ytmkpoaapcghohaa
