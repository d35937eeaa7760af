/- The walk through a program: a step that turns mates. -/
import Derived.Test.YtfobfcnbbafplaaH
namespace Go.Proofs.Ytfobfcnbbafplaa
open Go.RowKit
set_option linter.unusedVariables false
set_option linter.unusedSimpArgs false

theorem Wk.both {w : World} {B b : Nat} {R T : List (Int × Int)} {p : Int × Int} {M : List Int} {bad : Int} {deep : Bool} (h : Wk w B b (R ++ [p]) T M bad deep) {gl lc gm mc n j : Nat}
    (l0 : w.cell? ⟨b, 0, none⟩ = some (.slice (some ⟨gl, 0, none⟩) (R.length + 1) lc)) (m0 : w.cell? ⟨b, 2, none⟩ = some (.slice (some ⟨gm, 0, none⟩) n mc)) (mb : gm ≠ b) (k y : Int) :
    Wk ((w.setCell ⟨gm, j, none⟩ (.int .i64 k)).setCell ⟨gl, R.length * 2 + 1, none⟩ (.int .i64 y)) B b (R ++ [(p.1, y)]) T (M.set j k) bad deep ∧ Tr (fun i => B ≤ i) w ((w.setCell ⟨gm, j, none⟩ (.int .i64 k)).setCell ⟨gl, R.length * 2 + 1, none⟩ (.int .i64 y)) := by
  obtain ⟨h1, t1⟩ := h.mset m0 j k
  obtain ⟨g', c', l0', _, _, _, _, _, _, _, ls⟩ := h1.lset
  have s1 := g_set (g_refl w (some gm)) (p := ⟨gm, j, none⟩) (.inl rfl) (.int .i64 k)
  have l1 := s1.cell l0 (by simpa using Ne.symm mb)
  rw [l0'] at l1
  cases l1
  exact ⟨(ls y).1, tr_trans t1 (ls y).2 (fun i hi e => e)⟩

set_option maxRecDepth 100000 in
set_option maxHeartbeats 3200000 in
theorem step_else (B b : Nat) (R : List (Int × Int)) (j : Nat) (tw : Int) (T : List (Int × Int)) (M : List Int) (bad : Int) (deep : Bool) (xa xb xc : Int) (k : Int) (w : World) (h : Wk w B b (R ++ [((j : Int), tw)]) T M bad deep) (hok : okx ⟨16, xa, xb, xc⟩ = true) (m : Int) (hm : M[j]? = some m) (hw : tw ≠ 1) :
    Calls Try.prog 36 #[.pointer (some ⟨b, 0, none⟩), .int .i64 k, .agg #[.int .i64 16, .int .i64 xa, .int .i64 xb, .int .i64 xc]] w fun e w' => StepP B b w w' e true (R ++ [((j : Int), 1)]) T (M.set j k) bad deep := by
  have HC : Hid (∀ w, Calls Try.prog 41 #[.agg #[.int .i64 16, .int .i64 xa, .int .i64 xb, .int .i64 xc]] w fun e w' => e = .returned (.int .i64 (if okx ⟨16, xa, xb, xc⟩ then 0 else 100)) ∧ w.grownBy w' none) := Lib.hid (chk_x ⟨16, xa, xb, xc⟩)
  rw [hok] at HC
  have GA := Lib.hid (g_alloc (g_refl w none) (.cells #[.int .i64 16, .int .i64 xa, .int .i64 xb, .int .i64 xc] 31))
  have XB := Lib.hid (Blk.new w #[.int .i64 16, .int .i64 xa, .int .i64 xb, .int .i64 xc] 31)
  have x0 := XB.out.cell 0 _ rfl
  have x1 := XB.out.cell 1 _ rfl
  have x2 := XB.out.cell 2 _ rfl
  have x3 := XB.out.cell 3 _ rfl
  have HW := Lib.hid (h.keep GA.out)
  have HTOP := Lib.hid (top_any _ _ _ _ _ _ _ _ HW.out)
  rw [topP_snoc] at HTOP
  simp only at HTOP
  clear h hok
  go_enter Try.func36, Try.ntmps36
  go_wp2_with fail
  refine HTOP.out.mono ?_
  rintro e w1 ⟨rfl, g1⟩
  have XB := Lib.hid (XB.out.keepn g1)
  have G1 := Lib.hid (g_trans GA.out g1)
  have HW := Lib.hid (HW.out.keep g1)
  have YB := Lib.hid (Blk.new w1 #[.int .i64 (j : Int), .int .i64 tw] 61)
  have ga := g_alloc (g_refl w1 none) (.cells #[.int .i64 (j : Int), .int .i64 tw] 61)
  have XB2 := Lib.hid (XB.out.keepn ga)
  have HW := Lib.hid (HW.out.keep ga)
  have G2 := Lib.hid (g_trans G1.out ga)
  clear x0 x1 x2 x3
  have x0 := XB2.out.cell 0 _ rfl
  have x1 := XB2.out.cell 1 _ rfl
  have x2 := XB2.out.cell 2 _ rfl
  have x3 := XB2.out.cell 3 _ rfl
  clear g1 ga
  go_wp2_with fail
  refine (HC.out _).mono ?_
  rintro e w2 ⟨rfl, g2⟩
  have XB := Lib.hid (XB2.out.keepn g2)
  have YB := Lib.hid (YB.out.keepn g2)
  have G3 := Lib.hid (g_trans G2.out g2)
  have HW := Lib.hid (HW.out.keep g2)
  clear x0 x1 x2 x3 g2
  have x0 := XB.out.cell 0 _ rfl
  have y0 := YB.out.cell 0 _ rfl
  have y1 := YB.out.cell 1 _ rfl
  obtain ⟨gl, lc, l0, lc1, lc2, lb, lB, lw, lf, lm, lset⟩ := HW.out.lset
  obtain ⟨am, mc, m0, mc1, mc2, mat⟩ := HW.out.mates
  obtain ⟨gm, rfl, mb, mB, mx, mf⟩ := mat j m hm
  have hgg := lm gm _ _ m0
  have hgg2 := Ne.symm hgg
  have hjM : j < M.length := (List.getElem?_eq_some_iff.1 hm).1
  have hjMi : (j : Int) < M.length := by omega
  have HLS := Lib.hid lset
  have HM0 := Lib.hid m0
  have HL0 := Lib.hid l0
  clear lset lm mat hm
  have hw1 : (tw == 1) = false := beq_eq_false_iff_ne.2 hw
  have hn2 : ¬ (j : Int) < 0 := by omega
  have hsub : (((R.length + 1 : Nat) : Int) - 1) = R.length := by omega
  clear hw
  generalize hRl : R.length = n at *
  go_wp2_with fail
  go_region
  go_wp2_with fail
  go_ret
  subst hRl
  obtain ⟨q1, q2⟩ := Wk.both HW.out HL0.out HM0.out mb k 1
  exact ⟨rfl, q1.keep (g_drew (g_refl _ _)), tr_then (tr_trans (tr_g G3.out _) q2 (fun i hi e => e)) (g_drew (g_refl _ _))⟩
end Go.Proofs.Ytfobfcnbbafplaa
