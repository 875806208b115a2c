/- Contracts: eval.fold of every well formed expression; eval.Fold. -/
import Derived.Test.YtmkpoaapcghohaaFoldW
import Derived.Laws.ResultCell
namespace Go.Proofs.Ytmkpoaapcghohaa
open Go.RowKit
theorem child_sz {x : Ex} {k : Nat} (h : k < x.args.length) : (x.args.getD k ex0).sz < x.sz := by
  have h1 := szTo_succ h
  have h2 := szTo_le x.args (k + 1)
  have h3 := x.sz_eq
  omega
theorem foldAll (m : Nat) : ∀ x : Ex, x.sz ≤ m → x.sz ≤ 1000 → x.ok = true → ∀ (w : World) (B : Nat) (A : Option Addr) (c : Nat), Fits x c → Rds w B x.args A → FoldDo w B x A c := by
  induction m with
  | zero => intro x h; have := x.sz_pos; omega
  | succ m ih =>
    intro x h h1 hok w B A c hf hr
    have hl := szL_ge x.args
    have hs := x.sz_eq
    refine fold41 w B x A c hf hr hok (by omega) (fun k hk A' c' hf' hr' => ?_)
    have hc := child_sz hk
    refine ih _ (by omega) (by omega) ?_ w B A' c' hf' hr'
    have := hok
    rw [Ex.ok_eq, Bool.and_eq_true] at this
    exact okL_at this.2 hk

theorem ret_set6t {fn : Func} {p u : Tmp} {R : Ending → World → Prop} {a : Act} {w : World} {b : Nat} {v v0 v1 v2 v3 v4 v5 u0 u1 u2 u3 u4 u5 : Value} (h : fn.results = #[.cell p 49, .tmp u]) (hp : a.tmps.getD p undef = .pointer (some ⟨b, 0, none⟩)) (hu : a.tmps.getD u undef = v) (hd : a.defers = [])
    (hr : w.cell? ⟨b, 0, none⟩ = some u0 ∧ w.cell? ⟨b, 1, none⟩ = some u1 ∧ w.cell? ⟨b, 2, none⟩ = some u2 ∧ w.cell? ⟨b, 3, none⟩ = some u3 ∧ w.cell? ⟨b, 4, none⟩ = some u4 ∧ w.cell? ⟨b, 5, none⟩ = some u5)
    (hR : R (.returned (.tuple #[.agg #[v0, v1, v2, v3, v4, v5], v])) ((((((w.setCell ⟨b, 0, none⟩ v0).setCell ⟨b, 1, none⟩ v1).setCell ⟨b, 2, none⟩ v2).setCell ⟨b, 3, none⟩ v3).setCell ⟨b, 4, none⟩ v4).setCell ⟨b, 5, none⟩ v5)) :
    bodyPost Try.prog fn R .ret a ((((((w.setCell ⟨b, 0, none⟩ v0).setCell ⟨b, 1, none⟩ v1).setCell ⟨b, 2, none⟩ v2).setCell ⟨b, 3, none⟩ v3).setCell ⟨b, 4, none⟩ v4).setCell ⟨b, 5, none⟩ v5) := by
  obtain ⟨r0, r1, r2, r3, r4, r5⟩ := hr
  refine bodyPost_ret ?_ hd hR
  rw [results_cell_tmp h, hp, hu]
  simp only [asAddr, Sem.run_pure, Result.andThen]
  rw [load_six _ b v0 v1 v2 v3 v4 v5]
  · rw [World.cell?_setCell_other _ _ _ _ (by simp), World.cell?_setCell_other _ _ _ _ (by simp), World.cell?_setCell_other _ _ _ _ (by simp), World.cell?_setCell_other _ _ _ _ (by simp), World.cell?_setCell_other _ _ _ _ (by simp)]
    exact World.cell?_setCell_same _ _ _ r0
  · rw [World.cell?_setCell_other _ _ _ _ (by simp), World.cell?_setCell_other _ _ _ _ (by simp), World.cell?_setCell_other _ _ _ _ (by simp), World.cell?_setCell_other _ _ _ _ (by simp)]
    refine World.cell?_setCell_same _ _ _ (u := u1) ?_
    rw [World.cell?_setCell_other _ _ _ _ (by simp)]; exact r1
  · rw [World.cell?_setCell_other _ _ _ _ (by simp), World.cell?_setCell_other _ _ _ _ (by simp), World.cell?_setCell_other _ _ _ _ (by simp)]
    refine World.cell?_setCell_same _ _ _ (u := u2) ?_
    rw [World.cell?_setCell_other _ _ _ _ (by simp), World.cell?_setCell_other _ _ _ _ (by simp)]; exact r2
  · rw [World.cell?_setCell_other _ _ _ _ (by simp), World.cell?_setCell_other _ _ _ _ (by simp)]
    refine World.cell?_setCell_same _ _ _ (u := u3) ?_
    rw [World.cell?_setCell_other _ _ _ _ (by simp), World.cell?_setCell_other _ _ _ _ (by simp), World.cell?_setCell_other _ _ _ _ (by simp)]; exact r3
  · rw [World.cell?_setCell_other _ _ _ _ (by simp)]
    refine World.cell?_setCell_same _ _ _ (u := u4) ?_
    rw [World.cell?_setCell_other _ _ _ _ (by simp), World.cell?_setCell_other _ _ _ _ (by simp), World.cell?_setCell_other _ _ _ _ (by simp), World.cell?_setCell_other _ _ _ _ (by simp)]; exact r4
  · refine World.cell?_setCell_same _ _ _ (u := u5) ?_
    rw [World.cell?_setCell_other _ _ _ _ (by simp), World.cell?_setCell_other _ _ _ _ (by simp), World.cell?_setCell_other _ _ _ _ (by simp), World.cell?_setCell_other _ _ _ _ (by simp), World.cell?_setCell_other _ _ _ _ (by simp)]; exact r5

theorem FoldGot.side {y : Ex} {W w1 wf : World} {A : Option Addr} {c base : Nat} (hB : Below W.heap.size W w1) (hb : W.heap.size ≤ base) {w2 : World} (hbase : base ≤ w1.heap.size) (h : FoldGot y w1 w2 A c) (hs : Side W.heap.size base w2 wf) : FoldGot y W wf A c := by
  refine FoldGot.of (wr := w2) (base := base) (hB.trans (h.b.mono (by omega))) h.f (h.r.to (fun _ _ => rfl) (fun k hk => ⟨by omega, hk.2⟩)) hb hs

def zeroX : Value := .agg #[.int .i64 0, .int .i64 0, .int .i64 0, .string ⟨#[]⟩, .string ⟨#[]⟩, .slice none 0 0]
def Fold26Says (x : Ex) (W : World) (e : Ending) (w' : World) : Prop :=
  (wellB x = false ∧ e = .returned (.tuple #[.agg #[.int .i64 0, .int .i64 0, .int .i64 0, .string ⟨#[]⟩, .string ⟨#[]⟩, .slice none 0 0], .int .i64 2]) ∧ Below W.heap.size W w') ∨
  (wellB x = true ∧ ∃ A c, e = .returned (.tuple #[(Value.agg #[.int .i64 x.fold.op, .int .i64 x.fold.kind, .int .i64 x.fold.n, .string x.fold.s, .string x.fold.f, .slice A x.fold.args.length c]), .int .i64 0]) ∧ FoldGot x.fold W w' A c)

set_option maxHeartbeats 2000000 in
theorem foldTop26 (x : Ex) (A : Option Addr) (c : Nat) (W : World) (hf : Fits x c) (hr : Rds W W.heap.size x.args A) : Calls Try.prog 26 #[(Value.agg #[.int .i64 x.op, .int .i64 x.kind, .int .i64 x.n, .string x.s, .string x.f, .slice A x.args.length c])] W (Fold26Says x W) := by
  have HC40 : Hid (∀ W', Below W.heap.size W W' → Calls Try.prog 40 #[(Value.agg #[.int .i64 x.op, .int .i64 x.kind, .int .i64 x.n, .string x.s, .string x.f, .slice A x.args.length c])] W' (fun e w' => e = .returned (.bool (wellB x)) ∧ Below W'.heap.size W' w')) := hid (fun W' hb =>
    isExpr40 x A c W' hf (hr.to (Same.of_below hb (Nat.le_refl _)) hb.size))
  have HC41 : Hid (wellB x = true → ∀ W', Below W.heap.size W W' → Calls Try.prog 41 #[(Value.agg #[.int .i64 x.op, .int .i64 x.kind, .int .i64 x.n, .string x.s, .string x.f, .slice A x.args.length c])] W' (FoldSays x.fold W')) := hid (fun hw W' hb => by
    have hx := wellX_of hw
    have := hx.2.2
    exact foldAll x.sz x (Nat.le_refl _) (by omega) hx.1 W W.heap.size A c hf hr W' (Same.of_below hb (Nat.le_refl _)) hb.size)
  clear hf hr
  obtain ⟨W2, hW2⟩ : ∃ W2, W2 = (W.alloc (.cells #[.int .i64 x.op, .int .i64 x.kind, .int .i64 x.n, .string x.s, .string x.f, .slice A x.args.length c] 49)).alloc (.cells #[.int .i64 0, .int .i64 0, .int .i64 0, .string ⟨#[]⟩, .string ⟨#[]⟩, .slice none 0 0] 49) := ⟨_, rfl⟩
  have HTF : Hid (TF W.heap.size x.op x.kind x.n x.s x.f A x.args.length c W2) := hid (by rw [hW2]; exact TF.start _ _ _ _ _ _ _ _ _)
  have HZ : Hid (W2.heap.size = W.heap.size + 2) := hid (by rw [hW2]; simp)
  have HB0 : Hid (Below W.heap.size W W2) := hid (by rw [hW2]; exact ((Below.refl _ _).alloc (Nat.le_refl _) _).alloc (by simp) _)
  obtain ⟨q0, q1, q2, q3, q4, q5⟩ := HTF.out.q
  have HE40 := hid (HC40.out W2 HB0.out)
  clear HC40
  generalize hwb : wellB x = wb at *
  have HWB := hid hwb
  clear hwb
  go_enter Try.func26, Try.ntmps26
  go_upto_region 1 with fail
  rw [← hW2]
  clear hW2
  go_wp2_with fail
  refine HE40.out.mono ?_
  rintro e w3 ⟨rfl, hb⟩
  have hwz := HZ.out
  have hws := hb.size
  have HTF3 := hid (HTF.out.below hb (by omega))
  have HB3 := hid (HB0.out.trans (hb.mono (by omega)))
  have hw3 : W.heap.size + 2 ≤ w3.heap.size := by omega
  clear hb hwz hws HTF HZ HB0 HE40
  clear q0 q1 q2 q3 q4 q5
  obtain ⟨⟨q0, q1, q2, q3, q4, q5⟩, ⟨r0, r1, r2, r3, r4, r5⟩, hfz, _⟩ := HTF3.out
  cases wb
  · have f0 := hfz 0 (by omega)
    have f1 := hfz 1 (by omega)
    have f2 := hfz 2 (by omega)
    have f3 := hfz 3 (by omega)
    have f4 := hfz 4 (by omega)
    have f5 := hfz 5 (by omega)
    clear hfz
    go_wp2
    refine ret_set6t rfl rfl rfl rfl ⟨r0, r1, r2, r3, r4, r5⟩ ?_
    refine .inl ⟨HWB.out, rfl, ?_⟩
    exact (((((HB3.out.setCell (by simp) _).setCell (by simp) _).setCell (by simp) _).setCell (by simp) _).setCell (by simp) _).setCell (by simp) _
  · have HE41 := hid (HC41.out rfl w3 HB3.out)
    clear HC41
    generalize hy : x.fold = y at *
    have HY := hid hy
    clear hy hfz
    go_wp2_with fail
    refine HE41.out.mono ?_
    rintro e w4 ⟨A2, c2, rfl, hgot⟩
    have HG := hid hgot
    have HTF4 := hid (HTF3.out.below hgot.b (by omega))
    clear hgot HTF3 HE41
    clear q0 q1 q2 q3 q4 q5 r0 r1 r2 r3 r4 r5
    obtain ⟨⟨q0, q1, q2, q3, q4, q5⟩, ⟨r0, r1, r2, r3, r4, r5⟩, hfz, _⟩ := HTF4.out
    have f0 := hfz 0 (by omega)
    have f1 := hfz 1 (by omega)
    have f2 := hfz 2 (by omega)
    have f3 := hfz 3 (by omega)
    have f4 := hfz 4 (by omega)
    have f5 := hfz 5 (by omega)
    clear hfz
    go_wp2
    refine ret_set6t rfl rfl rfl rfl ⟨r0, r1, r2, r3, r4, r5⟩ ?_
    refine .inr ⟨HWB.out, A2, c2, by rw [HY.out]; rfl, ?_⟩
    rw [HY.out]
    exact FoldGot.side HB3.out (by omega : W.heap.size ≤ W.heap.size + 2) (by omega) HG.out (set6 (Side.refl _ _ _) (by omega) (by omega) _ _ _ _ _ _)
end Go.Proofs.Ytmkpoaapcghohaa
