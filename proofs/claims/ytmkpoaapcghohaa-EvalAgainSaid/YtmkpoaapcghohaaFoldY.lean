/- Contract: the reference's Fold. -/
import Derived.Test.YtmkpoaapcghohaaFoldC
namespace Go.Proofs.Ytmkpoaapcghohaa
open Go.RowKit

/-- the copy under way, at b: its row is v -/
structure TO (b : Nat) (op kind n : Int) (s f : ByteArray) (v : Value) (w : World) : Prop where
  q : w.cell? ⟨b, 0, none⟩ = some (.int .i64 op) ∧ w.cell? ⟨b, 1, none⟩ = some (.int .i64 kind) ∧ w.cell? ⟨b, 2, none⟩ = some (.int .i64 n) ∧ w.cell? ⟨b, 3, none⟩ = some (.string s) ∧ w.cell? ⟨b, 4, none⟩ = some (.string f) ∧ w.cell? ⟨b, 5, none⟩ = some v
  f : w.frozen? ⟨b, 5, none⟩ = false
theorem TO.to {b : Nat} {op kind n : Int} {s f : ByteArray} {v : Value} {w w' : World} (h : TO b op kind n s f v w) (h0 : w'.heap[b]? = w.heap[b]?) : TO b op kind n s f v w' := by
  have e : ∀ i, w'.cell? ⟨b, i, none⟩ = w.cell? ⟨b, i, none⟩ := fun i => World.cell?_of_block h0
  refine ⟨?_, (World.frozen?_of_block h0).trans h.f⟩
  rw [e, e, e, e, e, e]; exact h.q
theorem TO.below {b D : Nat} {op kind n : Int} {s f : ByteArray} {v : Value} {w w' : World} (h : TO b op kind n s f v w) (hb : Below D w w') (hD : b < D) : TO b op kind n s f v w' := h.to (hb.block b hD)
theorem TO.set {b : Nat} {op kind n : Int} {s f : ByteArray} {v : Value} {w : World} (h : TO b op kind n s f v w) (v' : Value) : TO b op kind n s f v' (w.setCell ⟨b, 5, none⟩ v') := by
  obtain ⟨⟨q0, q1, q2, q3, q4, q5⟩, hf⟩ := h
  refine ⟨⟨?_, ?_, ?_, ?_, ?_, World.cell?_setCell_same _ _ _ q5⟩, ?_⟩
  · rw [World.cell?_setCell_other _ _ _ _ (by simp)]; exact q0
  · rw [World.cell?_setCell_other _ _ _ _ (by simp)]; exact q1
  · rw [World.cell?_setCell_other _ _ _ _ (by simp)]; exact q2
  · rw [World.cell?_setCell_other _ _ _ _ (by simp)]; exact q3
  · rw [World.cell?_setCell_other _ _ _ _ (by simp)]; exact q4
  · simp [hf]
theorem ArgsTo.set {base : Nat} {fs : List Ex} {w : World} {k : Nat} {v : Value} {cs : List Value} {AA : Nat → Option Addr} {cc : Nat → Nat} (h : ArgsTo base fs w k v cs AA cc) {p : Addr} (hp : p.block < base) (u : Value) :
    ArgsTo base fs (w.setCell p u) k v cs AA cc :=
  ⟨ownsRow_setCell_below h.own hp u, h.six, h.fit, fun j hj => (h.rds j hj).to (fun b hb => Below.heap_setCell _ _ _ _ (by omega)) (fun b hb => ⟨hb.1, by simp [World.setCell]; exact hb.2.1, hb.2.2⟩)⟩

theorem own_shape {w : World} {B k : Nat} {v : Value} {cs : List Value} (h : w.ownsRow B 49 6 v (k + 1) cs) : ∃ g cap, v = .slice (some ⟨g, 0, none⟩) (k + 1) cap := by
  rcases h.2 with ⟨_, h0⟩ | ⟨g, cap, _, rfl, _⟩
  · omega
  · exact ⟨g, cap, rfl⟩
def RefDo (w : World) (B : Nat) (x : Ex) (A : Option Addr) (c : Nat) : Prop := ∀ W : World, Same B w W → B ≤ W.heap.size → Calls Try.prog 29 #[(Value.agg #[.int .i64 x.op, .int .i64 x.kind, .int .i64 x.n, .string x.s, .string x.f, .slice A x.args.length c])] W (FoldSays x.rfold W)

set_option maxHeartbeats 8000000 in
theorem ref29 (w : World) (B : Nat) (x : Ex) (A : Option Addr) (c : Nat) (hf : Fits x c) (hr : Rds w B x.args A) (hok : x.ok = true) (hm : x.args.length ≤ 1000)
    (ih : ∀ k, k < x.args.length → ∀ A' c', Fits (x.args.getD k ex0) c' → Rds w B (x.args.getD k ex0).args A' → RefDo w B (x.args.getD k ex0) A' c') : RefDo w B x A c := by
  intro W hS hB
  have HF := hid hf
  have HR := hid hr
  have IH := hid ih
  have HS := hid hS
  obtain ⟨op, kind, n, s, f, args⟩ := x
  have HOK := hid hok
  obtain ⟨i0, hi, hz0, hz1, hz2⟩ := info_parts info49
  have hl' : args.length ≤ 9223372036854775807 := by simp only at hm; omega
  clear hf hr ih hS hok
  simp only at *
  obtain ⟨W2, hW2⟩ : ∃ W2, W2 = (W.alloc (.cells #[.int .i64 op, .int .i64 kind, .int .i64 n, .string s, .string f, .slice A args.length c] 49)).alloc (.cells #[.int .i64 0, .int .i64 0, .int .i64 0, .string ⟨#[]⟩, .string ⟨#[]⟩, .slice none 0 0] 49) := ⟨_, rfl⟩
  obtain ⟨W3, hW3⟩ : ∃ W3, W3 = W2.alloc (.cells #[.int .i64 op, .int .i64 kind, .int .i64 n, .string s, .string f, .slice none 0 0] 49) := ⟨_, rfl⟩
  have HZ : Hid (W3.heap.size = W.heap.size + 3) := hid (by rw [hW3, hW2]; simp)
  have HZ2 : W2.heap.size = W.heap.size + 2 := by rw [hW2]; simp
  have HB0 : Hid (Below W.heap.size W W3) := hid (by rw [hW3, hW2]; exact (((Below.refl _ _).alloc (Nat.le_refl _) _).alloc (by simp) _).alloc (by simp; omega) _)
  have HTF : Hid (TF W.heap.size op kind n s f A args.length c W3) := hid (by rw [hW3]; refine TF.below (D := W2.heap.size) (w := W2) ?_ ((Below.refl _ _).alloc (Nat.le_refl _) _) (by omega); rw [hW2]; exact TF.start _ _ _ _ _ _ _ _ _)
  have HTO : Hid (TO (W.heap.size + 1 + 1) op kind n s f (.slice none 0 0) W3) := hid (by rw [hW3, show W.heap.size + 1 + 1 = W2.heap.size from HZ2.symm]; exact ⟨by simp, by simp⟩)
  have HS3 : Hid (Same B w W3) := hid (HS.out.trans (Same.of_below HB0.out hB))
  clear HZ2
  go_enter Try.func29, Try.ntmps29
  go_upto_region 3 with fail
  rw [← hW2, ← hW3]
  clear hW2 hW3
  go_wp2
  go_loopw [4] (fun i wr => ∃ (k : Nat) (v : Value) (cs : List Value) (AA : Nat → Option Addr) (cc : Nat → Nat), k ≤ args.length ∧ i = .int .i64 k ∧ Hid (ArgsTo (W.heap.size + 3) (rfoldL args) wr k v cs AA cc) ∧ Hid (Below (W.heap.size + 2) W3 wr) ∧ Hid (TO (W.heap.size + 1 + 1) op kind n s f v wr) ∧ Hid (W.heap.size + 3 ≤ wr.heap.size))
    (fun i _ => args.length - (intOf i).toNat)
  case atStart => exact ⟨0, _, [], fun _ => none, fun _ => 0, Nat.zero_le _, rfl, hid (ArgsTo.start _ _ _ _ _), hid (Below.refl _ _), HTO, hid (Nat.le_of_eq HZ.out.symm)⟩
  case round =>
    obtain ⟨k, v, cs, AA, cc, hk, rfl, HA, HB, HT, HW⟩ := hrel
    have HTr := hid (HTF.out.below HB.out (by omega))
    obtain ⟨q0, q1, q2, q3, q4, q5⟩ := HTr.out.q
    obtain ⟨o0, o1, o2, o3, o4, o5⟩ := HT.out.q
    have of5 := HT.out.f
    have hwr := HW.out
    clear HW
    by_cases hlt : k < args.length
    · have hSr : Same B w wr := HS3.out.trans (Same.of_below HB.out (by omega))
      obtain ⟨b, B', c2, rfl, hbb, hX, hF, hR2⟩ := HR.out.get hlt
      have hX2 := hX.to (w' := wr) (fun q hq => hSr.cell (by rw [hq, block_add]; exact hbb))
      have hq0 : (0 : Int) ≤ (k : Int) := by omega
      have hq1 : (k : Int) < (args.length : Int) := by omega
      have HY := hid (rfoldL_at hlt)
      have HE : Hid (Calls Try.prog 29 #[(Value.agg #[.int .i64 (args.getD k ex0).op, .int .i64 (args.getD k ex0).kind, .int .i64 (args.getD k ex0).n, .string (args.getD k ex0).s, .string (args.getD k ex0).f, .slice B' (args.getD k ex0).args.length c2])] wr (FoldSays (args.getD k ex0).rfold wr)) := hid (IH.out k hlt B' c2 hF hR2 _ hSr (by omega))
      clear hX hF hR2 IH HR
      generalize (args.getD k ex0).rfold = y at *
      generalize args.getD k ex0 = x at *
      obtain ⟨k0, k1, k2, k3, k4, k5⟩ := hX2
      go_wp2_with fail
      refine HE.out.mono ?_
      rintro e w2 ⟨A2, c3, rfl, hgot⟩
      have HG := hid hgot
      have HO := hid (args_own HA.out (Below.refl _ _) hgot (.cells #[.int .i64 y.op, .int .i64 y.kind, .int .i64 y.n, .string y.s, .string y.f, .slice A2 y.args.length c3] 49))
      have hw2 := hgot.b.size
      clear hgot HE
      go_wp2_with (first | (at_builtin; refine wpList_append_own_at _ rfl (.tmp 25) (.tmp 32) 47 rfl (W.heap.size + 3) 49 i0 _ 6 80 Try.underlying47 hi hz0 hz1 hz2 rfl (by decide) _ k cs rfl HO.out ⟨w2.heap.size, 0, none⟩ 1 1 (sixOf y A2 c3) rfl rfl (six_at _ _ _ _ _ rfl) (six_one _ _ _) (by unfold maxLen; omega) (by omega) (by simp; omega) ?_))
      intro v' w3 hown hgrow _ hv
      obtain ⟨g', cap', rfl⟩ := own_shape hown
      have hn := args_round HA.out hwr (Below.refl _ _) HG.out _ HY.out hown hgrow (by simpa using hv)
      have hT3 := HT.out.below hn.2 (by omega)
      have HA2 := hid (hn.1.set (p := ⟨W.heap.size + 1 + 1, 5, none⟩) (by simp only; omega) (.slice (some ⟨g', 0, none⟩) (k + 1) cap'))
      have HB2 := hid ((HB.out.trans (hn.2.mono (by omega))).setCell (p := ⟨W.heap.size + 1 + 1, 5, none⟩) (by simp only; omega) (.slice (some ⟨g', 0, none⟩) (k + 1) cap'))
      have HT2 := hid (hT3.set (.slice (some ⟨g', 0, none⟩) (k + 1) cap'))
      have HW2 : Hid (W.heap.size + 3 ≤ (w3.setCell ⟨W.heap.size + 1 + 1, 5, none⟩ (.slice (some ⟨g', 0, none⟩) (k + 1) cap')).heap.size) := hid (by have := hn.2.size; simp [World.setCell]; omega)
      have z5 := hT3.q.2.2.2.2.2
      have zf := hT3.f
      clear hown hgrow hv hn HA HB HG HO HY hT3 HT HTr o0 o1 o2 o3 o4 o5 of5
      go_wp2
      go_roundw
      case rel => exact ⟨k + 1, _, _, _, _, by omega, by go_num, HA2, HB2, HT2, HW2⟩
      case measure => simp [intOf]; omega
    · obtain rfl : k = args.length := by omega
      obtain ⟨A2, cap, rfl, hc1, hc2, hrd, hg⟩ := args_done HA.out (rfoldL_len args)
      have HC := hid (And.intro hc1 hc2)
      have HRD := hid hrd
      have HG := hid hg
      have HBW : Hid (Below W.heap.size W wr) := hid (HB0.out.trans (HB.out.mono (by omega)))
      have HX : Hid (∀ wf, Side W.heap.size (W.heap.size + 3) wr wf → FoldGot ⟨op, kind, n, s, f, rfoldL args⟩ W wf A2 cap) := hid (fun wf hs =>
        FoldGot.of HBW.out ⟨HF.out.s, HF.out.f, by simp only [rfoldL_len]; exact HC.out.1, HC.out.2⟩ HRD.out (by omega) hs)
      have HCm : Hid (∀ (r v : Int) wf, Side W.heap.size (W.heap.size + 3) wr wf → FoldGot ⟨1, r, v, ⟨#[]⟩, ⟨#[]⟩, []⟩ W wf none 0) := hid (fun r v wf hs => FoldGot.of HBW.out ⟨Nat.zero_le _, Nat.zero_le _, Nat.le_refl _, Nat.zero_le _⟩ (.nl none) (by omega) hs)
      clear hc1 hc2 hrd hg HA HR IH HS HS3 HB HB0 HTO HZ HTF q0 q1 q2 q3 q4 q5 of5
      obtain ⟨⟨q0, q1, q2, q3, q4, q5⟩, ⟨r0, r1, r2, r3, r4, r5⟩, hfz, _⟩ := HTr.out
      have f0 := hfz 0 (by omega)
      have f1 := hfz 1 (by omega)
      have f2 := hfz 2 (by omega)
      have f3 := hfz 3 (by omega)
      have f4 := hfz 4 (by omega)
      have f5 := hfz 5 (by omega)
      clear hfz
      have HL := hid (rfoldL_len args)
      have hfold : Ex.rfold ⟨op, kind, n, s, f, args⟩ = rTop ⟨op, kind, n, s, f, rfoldL args⟩ := by rw [Ex.rfold]
      generalize Ex.rfold ⟨op, kind, n, s, f, args⟩ = y at *
      have HY := hid hfold
      clear hfold
      have hokp := HOK.out
      rw [Ex.ok, Bool.and_eq_true] at hokp
      have har := (okB_parts hokp.1).2
      simp only at har
      have HOL : Hid (okL (rfoldL args) = true) := hid (by rw [← foldL_same args hokp.2]; exact foldL_ok args hokp.2)
      clear hokp HOK
      generalize rfoldL args = fs at *
      by_cases h6 : op < 6
      · clear har
        have HYX : Hid (y = ⟨op, kind, n, s, f, fs⟩) := hid (HY.out.trans (r_lt (x := ⟨op, kind, n, s, f, fs⟩) h6))
        go_wp2
        refine ret_set6 rfl rfl rfl ⟨r0, r1, r2, r3, r4, r5⟩ ?_
        exact says_x HYX.out (by have := HL.out; omega) (HX.out _ (set6 (Side.refl _ _ _) (by omega) (by omega) _ _ _ _ _ _))
      · have hop : op ≤ 21 ∧ 0 < args.length ∧ (((op = 6 ∨ op = 7) ∧ args.length = 1) ∨ (8 ≤ op ∧ args.length = 2)) := by
          by_cases h67 : op = 6 ∨ op = 7
          · have := arB_one har h67; omega
          · have := arB_two har (by omega); omega
        clear har
        obtain ⟨hop, hpos, hlen⟩ := hop
        obtain ⟨g, rfl, hg0, hg1⟩ := HG.out hpos
        clear HG
        have hLx := HL.out
        obtain ⟨a1, A1, c1, he, _, hX1, hF1, hR1⟩ := HRD.out.get (i := 0) (by omega)
        cases he
        have HF1 := hid hF1
        have HR1 := hid hR1
        have HOF := hid (gc_of (okL_at HOL.out (k := 0) (by omega)))
        clear hF1 hR1
        generalize hfi : fs.getD 0 ex0 = fi at *
        have HFI := hid hfi
        clear hfi
        obtain ⟨op1, kind1, n1, s1, f1', args1⟩ := fi
        obtain ⟨e0, e1, e2, e3, e4, e5⟩ := hX1
        have ea : (⟨g, 0, none⟩ : Addr).add (0 * 6) = ⟨g, 0, none⟩ := addr0 g 0
        simp only [ea, Nat.zero_add] at e0 e1 e2 e3 e4 e5
        clear ea
        have hz0' : (0 : Int) < (args.length : Int) := by omega
        have hb6 : ¬ op < 6 := h6
        have hb21 : ¬ 21 < op := by omega
        go_upto_region 11 with fail
        obtain ⟨W1, hW1⟩ : ∃ W1, W1 = wr.alloc (.cells #[.int .i64 op1, .int .i64 kind1, .int .i64 n1, .string s1, .string f1', .slice A1 args1.length c1] 49) := ⟨_, rfl⟩
        have HB1 : Hid (Below wr.heap.size wr W1) := hid (by rw [hW1]; exact (Below.refl _ _).alloc (Nat.le_refl _) _)
        have HS1 : Hid (Side W.heap.size (W.heap.size + 3) wr W1) := hid ((Side.refl _ _ _).below HB1.out (Nat.le_refl _))
        have HT1 := hid (HTr.out.below HB1.out (by omega))
        have HO1 := hid (HT.out.below HB1.out (by omega))
        have p0 : W1.cell? ⟨wr.heap.size, 0, none⟩ = some (.int .i64 op1) := by rw [hW1]; simp
        have p1 : W1.cell? ⟨wr.heap.size, 1, none⟩ = some (.int .i64 kind1) := by rw [hW1]; simp
        have p2 : W1.cell? ⟨wr.heap.size, 2, none⟩ = some (.int .i64 n1) := by rw [hW1]; simp
        have p3 : W1.cell? ⟨wr.heap.size, 3, none⟩ = some (.string s1) := by rw [hW1]; simp
        have p4 : W1.cell? ⟨wr.heap.size, 4, none⟩ = some (.string f1') := by rw [hW1]; simp
        have p5 : W1.cell? ⟨wr.heap.size, 5, none⟩ = some (.slice A1 args1.length c1) := by rw [hW1]; simp
        have HFst : Hid (∀ wf, Side W.heap.size (W.heap.size + 3) wr wf → FoldGot ⟨op1, kind1, n1, s1, f1', args1⟩ W wf A1 c1) := hid (fun wf hs => FoldGot.of HBW.out HF1.out HR1.out (by omega) hs)
        have hw1s : wr.heap.size < W1.heap.size := by rw [hW1]; simp
        rw [← hW1]
        clear hW1 e0 e1 e2 e3 e4 e5 HTr HT HF1 HR1
        clear q0 q1 q2 q3 q4 q5 r0 r1 r2 r3 r4 r5 f0 f1 f2 f3 f4 f5 o0 o1 o2 o3 o4 o5
        obtain ⟨⟨q0, q1, q2, q3, q4, q5⟩, ⟨r0, r1, r2, r3, r4, r5⟩, hfz, _⟩ := HT1.out
        have f0 := hfz 0 (by omega)
        have f1 := hfz 1 (by omega)
        have f2 := hfz 2 (by omega)
        have f3 := hfz 3 (by omega)
        have f4 := hfz 4 (by omega)
        have f5 := hfz 5 (by omega)
        clear hfz
        obtain ⟨o0, o1, o2, o3, o4, o5⟩ := HO1.out.q
        by_cases ho : op1 = 1
        · subst ho
          have hgk : 0 ≤ n1 ∧ n1 ≤ 2147483647 ∧ (kind1 = 2 ∨ kind1 = 3 ∨ (kind1 = 1 ∧ n1 ≤ 1)) := constB_iff.1 (HOF.out rfl)
          clear HOF
          have hk0 : 1 ≤ kind1 := by omega
          have hk3 : kind1 ≤ 3 := by omega
          have HGK := hid hgk
          clear hgk
          rcases hlen with ⟨h67, hl1⟩ | ⟨h8, hl2⟩
          · clear hl1
            have HR44 := hid (unary44 op kind1 h67 hk0 hk3 W1)
            have HR17 := hid (rUn17 op n1 W1)
            obtain ⟨rr, hrr⟩ : ∃ rr, rUnF op kind1 = rr := ⟨_, rfl⟩
            obtain ⟨u1, ub, hu⟩ : ∃ u1 ub, rUn op n1 = (u1, ub) := ⟨_, _, rfl⟩
            rw [hrr] at HR44
            rw [hu] at HR17
            have H67 := hid h67
            have HRR := hid hrr
            have HU := hid hu
            clear hrr hu
            have hgo : ((op == 6) = true) ∨ ((op == 6) = false ∧ (op == 7) = true) := by rcases h67 with rfl | rfl <;> simp
            clear h67
            rcases hgo with ha6 | ⟨ha6, ha7⟩
            · go_wp2_with fail
              refine HR44.out.mono ?_
              rintro e w4 ⟨rfl, rfl⟩
              by_cases hr0 : rr = 0
              · subst hr0
                have HYX : Hid (y = ⟨op, kind, n, s, f, fs⟩) := hid (HY.out.trans (r_un0 (x := ⟨op, kind, n, s, f, fs⟩) H67.out HFI.out rfl HRR.out))
                go_wp2
                refine ret_set6 rfl rfl rfl ⟨r0, r1, r2, r3, r4, r5⟩ ?_
                exact says_x HYX.out (by have := HL.out; omega) (HX.out _ (set6 HS1.out (by omega) (by omega) _ _ _ _ _ _))
              · have hrb : (rr == 0) = false := beq_eq_false_iff_ne.2 hr0
                have HR0 := hid hr0
                clear hr0
                go_wp2_with fail
                refine HR17.out.mono ?_
                rintro e w4 ⟨rfl, rfl⟩
                have HCR : Hid (y = conR ⟨op, kind, n, s, f, fs⟩ kind1 u1) := hid (HY.out.trans ((r_un (x := ⟨op, kind, n, s, f, fs⟩) H67.out HFI.out rfl (by simp only; rw [HRR.out]; exact HR0.out)).trans (by simp only; rw [HU.out])))
                go_wp2_with fail
                refine (con45 _ _ _ _ _ _ _ _ _ _ _).mono ?_
                rintro e w5 ⟨hcon, hb5⟩
                have HTF5 := hid (HT1.out.below hb5 (by omega))
                have HS5 := hid (HS1.out.below hb5 (by omega))
                clear hb5
                clear q0 q1 q2 q3 q4 q5 r0 r1 r2 r3 r4 r5 f0 f1 f2 f3 f4 f5 o0 o1 o2 o3 o4 o5
                obtain ⟨⟨q0, q1, q2, q3, q4, q5⟩, ⟨r0, r1, r2, r3, r4, r5⟩, hfz, _⟩ := HTF5.out
                have f0 := hfz 0 (by omega)
                have f1 := hfz 1 (by omega)
                have f2 := hfz 2 (by omega)
                have f3 := hfz 3 (by omega)
                have f4 := hfz 4 (by omega)
                have f5 := hfz 5 (by omega)
                clear hfz
                rcases hcon with ⟨hu0, rfl⟩ | ⟨hu0, rfl⟩
                · have HYX : Hid (y = ⟨op, kind, n, s, f, fs⟩) := hid (HCR.out.trans (con_neg hu0))
                  go_wp2
                  refine ret_set6 rfl rfl rfl ⟨r0, r1, r2, r3, r4, r5⟩ ?_
                  exact says_x HYX.out (by have := HL.out; omega) (HX.out _ (set6 HS5.out (by omega) (by omega) _ _ _ _ _ _))
                · have HYX : Hid (y = ⟨1, kind1, u1, ⟨#[]⟩, ⟨#[]⟩, []⟩) := hid (HCR.out.trans (con_pos hu0))
                  go_wp2
                  refine ret_set6 rfl rfl rfl ⟨r0, r1, r2, r3, r4, r5⟩ ?_
                  exact says_x HYX.out rfl (HCm.out _ _ _ (set6 HS5.out (by omega) (by omega) _ _ _ _ _ _))
            · go_wp2_with fail
              refine HR44.out.mono ?_
              rintro e w4 ⟨rfl, rfl⟩
              by_cases hr0 : rr = 0
              · subst hr0
                have HYX : Hid (y = ⟨op, kind, n, s, f, fs⟩) := hid (HY.out.trans (r_un0 (x := ⟨op, kind, n, s, f, fs⟩) H67.out HFI.out rfl HRR.out))
                go_wp2
                refine ret_set6 rfl rfl rfl ⟨r0, r1, r2, r3, r4, r5⟩ ?_
                exact says_x HYX.out (by have := HL.out; omega) (HX.out _ (set6 HS1.out (by omega) (by omega) _ _ _ _ _ _))
              · have hrb : (rr == 0) = false := beq_eq_false_iff_ne.2 hr0
                have HR0 := hid hr0
                clear hr0
                go_wp2_with fail
                refine HR17.out.mono ?_
                rintro e w4 ⟨rfl, rfl⟩
                have HCR : Hid (y = conR ⟨op, kind, n, s, f, fs⟩ kind1 u1) := hid (HY.out.trans ((r_un (x := ⟨op, kind, n, s, f, fs⟩) H67.out HFI.out rfl (by simp only; rw [HRR.out]; exact HR0.out)).trans (by simp only; rw [HU.out])))
                go_wp2_with fail
                refine (con45 _ _ _ _ _ _ _ _ _ _ _).mono ?_
                rintro e w5 ⟨hcon, hb5⟩
                have HTF5 := hid (HT1.out.below hb5 (by omega))
                have HS5 := hid (HS1.out.below hb5 (by omega))
                clear hb5
                clear q0 q1 q2 q3 q4 q5 r0 r1 r2 r3 r4 r5 f0 f1 f2 f3 f4 f5 o0 o1 o2 o3 o4 o5
                obtain ⟨⟨q0, q1, q2, q3, q4, q5⟩, ⟨r0, r1, r2, r3, r4, r5⟩, hfz, _⟩ := HTF5.out
                have f0 := hfz 0 (by omega)
                have f1 := hfz 1 (by omega)
                have f2 := hfz 2 (by omega)
                have f3 := hfz 3 (by omega)
                have f4 := hfz 4 (by omega)
                have f5 := hfz 5 (by omega)
                clear hfz
                rcases hcon with ⟨hu0, rfl⟩ | ⟨hu0, rfl⟩
                · have HYX : Hid (y = ⟨op, kind, n, s, f, fs⟩) := hid (HCR.out.trans (con_neg hu0))
                  go_wp2
                  refine ret_set6 rfl rfl rfl ⟨r0, r1, r2, r3, r4, r5⟩ ?_
                  exact says_x HYX.out (by have := HL.out; omega) (HX.out _ (set6 HS5.out (by omega) (by omega) _ _ _ _ _ _))
                · have HYX : Hid (y = ⟨1, kind1, u1, ⟨#[]⟩, ⟨#[]⟩, []⟩) := hid (HCR.out.trans (con_pos hu0))
                  go_wp2
                  refine ret_set6 rfl rfl rfl ⟨r0, r1, r2, r3, r4, r5⟩ ?_
                  exact says_x HYX.out rfl (HCm.out _ _ _ (set6 HS5.out (by omega) (by omega) _ _ _ _ _ _))
          · have ha6 : (op == 6) = false := beq_eq_false_iff_ne.2 (by omega)
            have ha7 : (op == 7) = false := beq_eq_false_iff_ne.2 (by omega)
            have hz1' : (1 : Int) < (args.length : Int) := by omega
            obtain ⟨a2, A3, c2, he2, _, hX2, _, _⟩ := HRD.out.get (i := 1) (by omega)
            cases he2
            have HOF2 := hid (gc_of (okL_at HOL.out (k := 1) (by omega)))
            clear hl2
            generalize hsi : fs.getD 1 ex0 = si at *
            have HSI := hid hsi
            clear hsi
            obtain ⟨op2, kind2, n2, s2, f2', args2⟩ := si
            obtain ⟨e0, e1, e2, e3, e4, e5⟩ := hX2
            have ea : (⟨g, 0, none⟩ : Addr).add (1 * 6) = ⟨g, 6, none⟩ := addr0 g 6
            simp only [ea] at e0 e1 e2 e3 e4 e5
            clear ea
            have g0 := (HB1.out.cell (p := ⟨g, 6, none⟩) hg1).trans e0
            have g1 := (HB1.out.cell (p := ⟨g, 6 + 1, none⟩) hg1).trans e1
            have g2 := (HB1.out.cell (p := ⟨g, 6 + 2, none⟩) hg1).trans e2
            have g3 := (HB1.out.cell (p := ⟨g, 6 + 3, none⟩) hg1).trans e3
            have g4 := (HB1.out.cell (p := ⟨g, 6 + 4, none⟩) hg1).trans e4
            have g5 := (HB1.out.cell (p := ⟨g, 6 + 5, none⟩) hg1).trans e5
            simp only [Nat.reduceAdd] at g1 g2 g3 g4 g5
            clear e0 e1 e2 e3 e4 e5
            go_upto_region 18 with fail
            generalize hlb : rLeft op ⟨1, kind1, n1, s1, f1', args1⟩ = lb
            have HLB := hid hlb
            clear hlb
            go_cut [102] from 80 to 102 (fun v wx => v = .bool lb ∧ wx = W1)
            case first =>
              have HLB' : Hid ((((op == 10 && n1 == 0) || (op == 8 && n1 == 1)) && kind1 == 1) = lb) := HLB
              clear HLB
              by_cases wa10 : (op == 10) = true
              · have ha10 := wa10; clear wa10
                by_cases wz : (n1 == 0) = true
                · have hz := wz; clear wz
                  by_cases wk : (kind1 == 1) = true
                  · have hk := wk; clear wk
                    have HV : Hid (lb = true) := hid (by rw [← HLB'.out]; simp [ha10, hz, hk])
                    clear HLB'
                    go_wp2
                    go_meet
                    exact ⟨by rw [HV.out], rfl⟩
                  · have hk := Bool.eq_false_iff.2 wk; clear wk
                    have HV : Hid (lb = false) := hid (by rw [← HLB'.out]; simp [ha10, hz, hk])
                    clear HLB'
                    go_wp2
                    go_meet
                    exact ⟨by rw [HV.out], rfl⟩
                · have hz := Bool.eq_false_iff.2 wz; clear wz
                  by_cases wa8 : (op == 8) = true
                  · have ha8 := wa8; clear wa8
                    exact absurd (beq_iff_eq.1 ha10) (by rw [beq_iff_eq.1 ha8]; decide)
                  · have ha8 := Bool.eq_false_iff.2 wa8; clear wa8
                    have HV : Hid (lb = false) := hid (by rw [← HLB'.out]; simp [ha10, hz, ha8])
                    clear HLB'
                    go_wp2
                    go_meet
                    exact ⟨by rw [HV.out], rfl⟩
              · have ha10 := Bool.eq_false_iff.2 wa10; clear wa10
                by_cases wa8 : (op == 8) = true
                · have ha8 := wa8; clear wa8
                  by_cases wn : (n1 == 1) = true
                  · have hn := wn; clear wn
                    by_cases wk : (kind1 == 1) = true
                    · have hk := wk; clear wk
                      have HV : Hid (lb = true) := hid (by rw [← HLB'.out]; simp [ha10, ha8, hn, hk])
                      clear HLB'
                      go_wp2
                      go_meet
                      exact ⟨by rw [HV.out], rfl⟩
                    · have hk := Bool.eq_false_iff.2 wk; clear wk
                      have HV : Hid (lb = false) := hid (by rw [← HLB'.out]; simp [ha10, ha8, hn, hk])
                      clear HLB'
                      go_wp2
                      go_meet
                      exact ⟨by rw [HV.out], rfl⟩
                  · have hn := Bool.eq_false_iff.2 wn; clear wn
                    have HV : Hid (lb = false) := hid (by rw [← HLB'.out]; simp [ha10, ha8, hn])
                    clear HLB'
                    go_wp2
                    go_meet
                    exact ⟨by rw [HV.out], rfl⟩
                · have ha8 := Bool.eq_false_iff.2 wa8; clear wa8
                  have HV : Hid (lb = false) := hid (by rw [← HLB'.out]; simp [ha10, ha8])
                  clear HLB'
                  go_wp2
                  go_meet
                  exact ⟨by rw [HV.out], rfl⟩
            case rest =>
              obtain ⟨rfl, hwc⟩ := hcut
              rw [hwc]
              clear hwc
              cases lb
              · have HY2 : Hid (y = rTwo ⟨op, kind, n, s, f, fs⟩ ⟨1, kind1, n1, s1, f1', args1⟩ ⟨op2, kind2, n2, s2, f2', args2⟩) := hid (HY.out.trans (r_two (x := ⟨op, kind, n, s, f, fs⟩) h8 hop HFI.out HSI.out rfl HLB.out))
                clear HLB
                go_upto_region 21 with fail
                obtain ⟨W4, hW4⟩ : ∃ W4, W4 = W1.alloc (.cells #[.int .i64 op2, .int .i64 kind2, .int .i64 n2, .string s2, .string f2', .slice A3 args2.length c2] 49) := ⟨_, rfl⟩
                have HB4 : Hid (Below W1.heap.size W1 W4) := hid (by rw [hW4]; exact (Below.refl _ _).alloc (Nat.le_refl _) _)
                have HS4 : Hid (Side W.heap.size (W.heap.size + 3) wr W4) := hid (HS1.out.below HB4.out (by omega))
                have HT4 := hid (HT1.out.below HB4.out (by omega))
                have HO4 := hid (HO1.out.below HB4.out (by omega))
                have j0 : W4.cell? ⟨W1.heap.size, 0, none⟩ = some (.int .i64 op2) := by rw [hW4]; simp
                have j1 : W4.cell? ⟨W1.heap.size, 1, none⟩ = some (.int .i64 kind2) := by rw [hW4]; simp
                have j2 : W4.cell? ⟨W1.heap.size, 2, none⟩ = some (.int .i64 n2) := by rw [hW4]; simp
                have m1 := (HB4.out.cell (p := ⟨wr.heap.size, 1, none⟩) hw1s).trans p1
                have m2 := (HB4.out.cell (p := ⟨wr.heap.size, 2, none⟩) hw1s).trans p2
                have hw4s : W1.heap.size < W4.heap.size := by rw [hW4]; simp
                rw [← hW4]
                clear hW4 p0 p1 p2 p3 p4 p5 g0 g1 g2 g3 g4 g5 HT1 HO1
                clear q0 q1 q2 q3 q4 q5 r0 r1 r2 r3 r4 r5 f0 f1 f2 f3 f4 f5 o0 o1 o2 o3 o4 o5
                obtain ⟨⟨q0, q1, q2, q3, q4, q5⟩, ⟨r0, r1, r2, r3, r4, r5⟩, hfz, _⟩ := HT4.out
                have f0 := hfz 0 (by omega)
                have f1 := hfz 1 (by omega)
                have f2 := hfz 2 (by omega)
                have f3 := hfz 3 (by omega)
                have f4 := hfz 4 (by omega)
                have f5 := hfz 5 (by omega)
                clear hfz
                obtain ⟨o0, o1, o2, o3, o4, o5⟩ := HO4.out.q
                by_cases ho2 : op2 = 1
                · subst ho2
                  have hgk2 : 0 ≤ n2 ∧ n2 ≤ 2147483647 ∧ (kind2 = 2 ∨ kind2 = 3 ∨ (kind2 = 1 ∧ n2 ≤ 1)) := constB_iff.1 (HOF2.out rfl)
                  clear HOF2
                  have hk20 : 1 ≤ kind2 := by omega
                  have hk23 : kind2 ≤ 3 := by omega
                  have HR46 := hid (binary46 op kind1 kind2 h8 hop hk0 hk3 hk20 hk23 W4)
                  have HR18 := hid (rbin18 op n1 n2 W4)
                  obtain ⟨rr, hrr⟩ : ∃ rr, rBinF op kind1 kind2 = rr := ⟨_, rfl⟩
                  obtain ⟨u1, u2, ub, hu⟩ : ∃ u1 u2 ub, rBin op n1 n2 = (u1, u2, ub) := ⟨_, _, _, rfl⟩
                  rw [hrr] at HR46
                  unfold RSays at HR18
                  rw [hu] at HR18
                  have HRK : Hid (rKind op ⟨1, kind1, n1, s1, f1', args1⟩ ⟨1, kind2, n2, s2, f2', args2⟩ = rr) := hid (by unfold rKind; rw [if_pos rfl]; exact hrr)
                  have HU := hid hu
                  clear hrr hu hgk2
                  go_wp2_with fail
                  refine HR46.out.mono ?_
                  rintro e w4 ⟨rfl, rfl⟩
                  by_cases hr0 : rr = 0
                  · subst hr0
                    have HYX : Hid (y = ⟨op, kind, n, s, f, fs⟩) := hid (HY2.out.trans (two_0 (x := ⟨op, kind, n, s, f, fs⟩) HRK.out))
                    go_wp2
                    refine ret_set6 rfl rfl rfl ⟨r0, r1, r2, r3, r4, r5⟩ ?_
                    exact says_x HYX.out (by have := HL.out; omega) (HX.out _ (set6 HS4.out (by omega) (by omega) _ _ _ _ _ _))
                  · have hrb : (rr == 0) = false := beq_eq_false_iff_ne.2 hr0
                    have HR0 := hid hr0
                    clear hr0
                    go_wp2_with fail
                    refine HR18.out.mono ?_
                    rintro e w4 ⟨rfl, rfl⟩
                    by_cases hv0 : u2 = 0
                    · subst hv0
                      have HCR : Hid (y = conR ⟨op, kind, n, s, f, fs⟩ rr u1) := hid (HY2.out.trans ((two_c (x := ⟨op, kind, n, s, f, fs⟩) (by simp only; rw [HRK.out]; exact HR0.out) (by simp only; rw [HU.out])).trans (by simp only; rw [HRK.out, HU.out])))
                      go_wp2_with fail
                      refine (con45 _ _ _ _ _ _ _ _ _ _ _).mono ?_
                      rintro e w5 ⟨hcon, hb5⟩
                      have HTF5 := hid (HT4.out.below hb5 (by omega))
                      have HS5 := hid (HS4.out.below hb5 (by omega))
                      clear hb5
                      clear q0 q1 q2 q3 q4 q5 r0 r1 r2 r3 r4 r5 f0 f1 f2 f3 f4 f5 o0 o1 o2 o3 o4 o5
                      obtain ⟨⟨q0, q1, q2, q3, q4, q5⟩, ⟨r0, r1, r2, r3, r4, r5⟩, hfz, _⟩ := HTF5.out
                      have f0 := hfz 0 (by omega)
                      have f1 := hfz 1 (by omega)
                      have f2 := hfz 2 (by omega)
                      have f3 := hfz 3 (by omega)
                      have f4 := hfz 4 (by omega)
                      have f5 := hfz 5 (by omega)
                      clear hfz
                      rcases hcon with ⟨hu0, rfl⟩ | ⟨hu0, rfl⟩
                      · have HYX : Hid (y = ⟨op, kind, n, s, f, fs⟩) := hid (HCR.out.trans (con_neg hu0))
                        go_wp2
                        refine ret_set6 rfl rfl rfl ⟨r0, r1, r2, r3, r4, r5⟩ ?_
                        exact says_x HYX.out (by have := HL.out; omega) (HX.out _ (set6 HS5.out (by omega) (by omega) _ _ _ _ _ _))
                      · have HYX : Hid (y = ⟨1, rr, u1, ⟨#[]⟩, ⟨#[]⟩, []⟩) := hid (HCR.out.trans (con_pos hu0))
                        go_wp2
                        refine ret_set6 rfl rfl rfl ⟨r0, r1, r2, r3, r4, r5⟩ ?_
                        exact says_x HYX.out rfl (HCm.out _ _ _ (set6 HS5.out (by omega) (by omega) _ _ _ _ _ _))
                    · have hvb : (u2 != 0) = true := by simp [hv0]
                      have HYX : Hid (y = ⟨op, kind, n, s, f, fs⟩) := hid (HY2.out.trans (two_f (x := ⟨op, kind, n, s, f, fs⟩) (by simp only; rw [HU.out]; exact hv0)))
                      go_wp2
                      refine ret_set6 rfl rfl rfl ⟨r0, r1, r2, r3, r4, r5⟩ ?_
                      exact says_x HYX.out (by have := HL.out; omega) (HX.out _ (set6 HS4.out (by omega) (by omega) _ _ _ _ _ _))
                · have hob : (op2 == 1) = false := beq_eq_false_iff_ne.2 ho2
                  have HYX : Hid (y = ⟨op, kind, n, s, f, fs⟩) := hid (HY2.out.trans (two_0 (x := ⟨op, kind, n, s, f, fs⟩) (by unfold rKind; rw [if_neg ho2])))
                  go_wp2
                  refine ret_set6 rfl rfl rfl ⟨r0, r1, r2, r3, r4, r5⟩ ?_
                  exact says_x HYX.out (by have := HL.out; omega) (HX.out _ (set6 HS4.out (by omega) (by omega) _ _ _ _ _ _))
              · have HY2 : Hid (y = ⟨1, kind1, n1, s1, f1', args1⟩) := hid (HY.out.trans (r_left (x := ⟨op, kind, n, s, f, fs⟩) h8 hop HFI.out rfl HLB.out))
                go_wp2
                refine ret_set6 rfl rfl rfl ⟨r0, r1, r2, r3, r4, r5⟩ ?_
                exact says_x HY2.out rfl (HFst.out _ (set6 HS1.out (by omega) (by omega) _ _ _ _ _ _))
        · have hob : (op1 != 1) = true := by simp [ho]
          have HYX : Hid (y = ⟨op, kind, n, s, f, fs⟩) := hid (HY.out.trans (r_ne (x := ⟨op, kind, n, s, f, fs⟩) h6 hop (by simp only; rw [HFI.out]; exact ho)))
          go_wp2
          refine ret_set6 rfl rfl rfl ⟨r0, r1, r2, r3, r4, r5⟩ ?_
          exact says_x HYX.out (by have := HL.out; omega) (HX.out _ (set6 HS1.out (by omega) (by omega) _ _ _ _ _ _))
end Go.Proofs.Ytmkpoaapcghohaa
