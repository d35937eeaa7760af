/- The walk through a program: a step that ends a block. -/
import Derived.Test.YtfobfcnbbafplaaI
namespace Go.Proofs.Ytfobfcnbbafplaa
open Go.RowKit
set_option linter.unusedVariables false
set_option linter.unusedSimpArgs false

set_option maxRecDepth 100000 in
set_option maxHeartbeats 3200000 in
theorem step_end_zero (B b : Nat) (R : List (Int × Int)) (j kn : Nat) (tw : Int) (T : List (Int × Int)) (M : List Int) (bad : Int) (deep : Bool) (xa xb xc : Int) (w : World) (h : Wk w B b (R ++ [((j : Int), tw)]) T M bad deep) (hok : okx ⟨17, xa, xb, xc⟩ = true) (m mj : Int) (hm : M[kn]? = some m) (hmj : M[j]? = some mj) (hw : tw ≠ 1) :
    Calls Try.prog 36 #[.pointer (some ⟨b, 0, none⟩), .int .i64 (kn : Int), .agg #[.int .i64 17, .int .i64 xa, .int .i64 xb, .int .i64 xc]] w fun e w' => StepP B b w w' e true (R) T ((M.set kn j).set j kn) bad deep := by
  have HC : Hid (∀ w, Calls Try.prog 41 #[.agg #[.int .i64 17, .int .i64 xa, .int .i64 xb, .int .i64 xc]] w fun e w' => e = .returned (.int .i64 (if okx ⟨17, xa, xb, xc⟩ then 0 else 100)) ∧ w.grownBy w' none) := Lib.hid (chk_x ⟨17, xa, xb, xc⟩)
  rw [hok] at HC
  have GA := Lib.hid (g_alloc (g_refl w none) (.cells #[.int .i64 17, .int .i64 xa, .int .i64 xb, .int .i64 xc] 31))
  have XB := Lib.hid (Blk.new w #[.int .i64 17, .int .i64 xa, .int .i64 xb, .int .i64 xc] 31)
  have x0 := XB.out.cell 0 _ rfl
  have x1 := XB.out.cell 1 _ rfl
  have x2 := XB.out.cell 2 _ rfl
  have x3 := XB.out.cell 3 _ rfl
  have HW := Lib.hid (h.keep GA.out)
  have HTOP := Lib.hid (top_any _ _ _ _ _ _ _ _ HW.out)
  rw [topP_snoc] at HTOP
  simp only at HTOP
  clear h hok
  go_enter Try.func36, Try.ntmps36
  go_wp2_with fail
  refine HTOP.out.mono ?_
  rintro e w1 ⟨rfl, g1⟩
  have XB := Lib.hid (XB.out.keepn g1)
  have G1 := Lib.hid (g_trans GA.out g1)
  have HW := Lib.hid (HW.out.keep g1)
  obtain ⟨am, mc, m0, mc1, mc2, mat⟩ := HW.out.mates
  obtain ⟨gm, rfl, mb, mB, mx, mf⟩ := mat kn m hm
  have hgmlt := World.block_lt_of_cell? _ _ mx
  have hgne : gm ≠ w1.heap.size := by
    have h : gm < w1.heap.size := hgmlt
    omega
  have hgne2 := Ne.symm hgne
  have HM1 := Lib.hid m0
  clear m0 mx mf mat hgmlt
  have YB := Lib.hid (Blk.new w1 #[.int .i64 (j : Int), .int .i64 tw] 61)
  have ga := g_alloc (g_refl w1 none) (.cells #[.int .i64 (j : Int), .int .i64 tw] 61)
  have XB2 := Lib.hid (XB.out.keepn ga)
  have HW := Lib.hid (HW.out.keep ga)
  have G2 := Lib.hid (g_trans G1.out ga)
  clear x0 x1 x2 x3
  have x0 := XB2.out.cell 0 _ rfl
  have x1 := XB2.out.cell 1 _ rfl
  have x2 := XB2.out.cell 2 _ rfl
  have x3 := XB2.out.cell 3 _ rfl
  have HM1 := Lib.hid (ga.cell HM1.out (by simp))
  clear g1 ga
  go_wp2_with fail
  refine (HC.out _).mono ?_
  rintro e w2 ⟨rfl, g2⟩
  have XB := Lib.hid (XB2.out.keepn g2)
  have YB := Lib.hid (YB.out.keepn g2)
  have G3 := Lib.hid (g_trans G2.out g2)
  have HW := Lib.hid (HW.out.keep g2)
  have m0 := g2.cell HM1.out (by simp)
  clear x0 x1 x2 x3 g2
  have x0 := XB.out.cell 0 _ rfl
  have y0 := YB.out.cell 0 _ rfl
  have y1 := YB.out.cell 1 _ rfl
  obtain ⟨am', mc', m0', -, -, mat⟩ := HW.out.mates
  rw [m0] at m0'
  cases m0'
  obtain ⟨g', hg', -, -, mx, mf⟩ := mat kn m hm
  cases hg'
  obtain ⟨g', hg', -, -, jx, jf⟩ := mat j mj hmj
  cases hg'
  have hkM : kn < M.length := (List.getElem?_eq_some_iff.1 hm).1
  have hkMi : (kn : Int) < M.length := by omega
  have hjM : j < M.length := (List.getElem?_eq_some_iff.1 hmj).1
  have hjMi : (j : Int) < M.length := by omega
  have hn2 : ¬ (j : Int) < 0 := by omega
  have HM0 := Lib.hid m0
  obtain ⟨q1, q2⟩ := HW.out.mset m0 kn j
  have H1 := Lib.hid (And.intro (q1.keep (g_drew (g_refl _ _))) (tr_then (tr_trans (tr_g G3.out _) q2 (fun i hi e => e)) (g_drew (g_refl _ _))))
  have gw := g_drew (g_set (g_refl w2 (some gm)) (p := ⟨gm, kn, none⟩) (.inl rfl) (.int .i64 (j : Int)))
  have m2 := gw.cell m0 (by simpa using Ne.symm mb)
  have z0 := gw.cell y0 (by simpa using hgne2)
  have z1 := gw.cell y1 (by simpa using hgne2)
  have M2 := Lib.hid m2
  have Z := Lib.hid (And.intro z0 z1)
  clear q1 q2 gw mat m2 z0 z1
  have hw1 : (tw == 1) = false := beq_eq_false_iff_ne.2 hw
  clear hw
  go_wp2_with fail
  go_region
  clear m0 mx mf jx jf y0 y1 x0
  generalize (w2.setCell ⟨gm, kn, none⟩ (.int .i64 (j : Int))).drew = w3 at *
  obtain ⟨am2, mc2', m2', -, -, mat⟩ := H1.out.1.mates
  have m2 := M2.out
  simp only [List.length_set] at m2'
  rw [m2] at m2'
  cases m2'
  obtain ⟨mj2, hmj2⟩ : ∃ y, (M.set kn (j : Int))[j]? = some y := ⟨_, List.getElem?_eq_getElem (by simpa using hjM)⟩
  obtain ⟨g', hg', -, -, kx, kf⟩ := mat j mj2 hmj2
  cases hg'
  have z0 : w3.cell? ⟨w1.heap.size, 0, none⟩ = some (.int .i64 (j : Int)) := Z.out.1
  have z1 : w3.cell? ⟨w1.heap.size, 1, none⟩ = some (.int .i64 tw) := Z.out.2
  obtain ⟨q1, q2⟩ := H1.out.1.mset m2 j kn
  have H2 := Lib.hid (And.intro (q1.keep (g_drew (g_refl _ _))) (tr_then (tr_trans H1.out.2 q2 (fun i hi e => e)) (g_drew (g_refl _ _))))
  have HP := Lib.hid (pop_any _ _ _ _ _ _ _ _ _ H2.out.1)
  clear q1 q2 mat
  go_wp2_with fail
  go_region
  go_wp2_with fail
  refine HP.out.mono ?_
  rintro e w5 ⟨rfl, h5, t5⟩
  have H5 := Lib.hid (And.intro h5 t5)
  clear h5 t5
  go_wp2_with fail
  go_ret
  exact ⟨rfl, H5.out.1, tr_trans H2.out.2 H5.out.2 (fun i hi e => e)⟩
set_option maxRecDepth 100000 in
set_option maxHeartbeats 3200000 in
theorem step_end_one (B b : Nat) (R : List (Int × Int)) (j kn : Nat) (T : List (Int × Int)) (M : List Int) (bad : Int) (deep : Bool) (xa xb xc : Int) (w : World) (h : Wk w B b (R ++ [((j : Int), 1)]) T M bad deep) (hok : okx ⟨17, xa, xb, xc⟩ = true) (m mj : Int) (hm : M[kn]? = some m) (hmj : M[j]? = some mj) (q : Nat) (hq : (M.set kn (j : Int))[j]? = some (q : Int)) (hqM : q < M.length) :
    Calls Try.prog 36 #[.pointer (some ⟨b, 0, none⟩), .int .i64 (kn : Int), .agg #[.int .i64 17, .int .i64 xa, .int .i64 xb, .int .i64 xc]] w fun e w' => StepP B b w w' e true (R) T ((M.set kn j).set q kn) bad deep := by
  have HC : Hid (∀ w, Calls Try.prog 41 #[.agg #[.int .i64 17, .int .i64 xa, .int .i64 xb, .int .i64 xc]] w fun e w' => e = .returned (.int .i64 (if okx ⟨17, xa, xb, xc⟩ then 0 else 100)) ∧ w.grownBy w' none) := Lib.hid (chk_x ⟨17, xa, xb, xc⟩)
  rw [hok] at HC
  have GA := Lib.hid (g_alloc (g_refl w none) (.cells #[.int .i64 17, .int .i64 xa, .int .i64 xb, .int .i64 xc] 31))
  have XB := Lib.hid (Blk.new w #[.int .i64 17, .int .i64 xa, .int .i64 xb, .int .i64 xc] 31)
  have x0 := XB.out.cell 0 _ rfl
  have x1 := XB.out.cell 1 _ rfl
  have x2 := XB.out.cell 2 _ rfl
  have x3 := XB.out.cell 3 _ rfl
  have HW := Lib.hid (h.keep GA.out)
  have HTOP := Lib.hid (top_any _ _ _ _ _ _ _ _ HW.out)
  rw [topP_snoc] at HTOP
  simp only at HTOP
  clear h hok
  go_enter Try.func36, Try.ntmps36
  go_wp2_with fail
  refine HTOP.out.mono ?_
  rintro e w1 ⟨rfl, g1⟩
  have XB := Lib.hid (XB.out.keepn g1)
  have G1 := Lib.hid (g_trans GA.out g1)
  have HW := Lib.hid (HW.out.keep g1)
  obtain ⟨am, mc, m0, mc1, mc2, mat⟩ := HW.out.mates
  obtain ⟨gm, rfl, mb, mB, mx, mf⟩ := mat kn m hm
  have hgmlt := World.block_lt_of_cell? _ _ mx
  have hgne : gm ≠ w1.heap.size := by
    have h : gm < w1.heap.size := hgmlt
    omega
  have hgne2 := Ne.symm hgne
  have HM1 := Lib.hid m0
  clear m0 mx mf mat hgmlt
  have YB := Lib.hid (Blk.new w1 #[.int .i64 (j : Int), .int .i64 1] 61)
  have ga := g_alloc (g_refl w1 none) (.cells #[.int .i64 (j : Int), .int .i64 1] 61)
  have XB2 := Lib.hid (XB.out.keepn ga)
  have HW := Lib.hid (HW.out.keep ga)
  have G2 := Lib.hid (g_trans G1.out ga)
  clear x0 x1 x2 x3
  have x0 := XB2.out.cell 0 _ rfl
  have x1 := XB2.out.cell 1 _ rfl
  have x2 := XB2.out.cell 2 _ rfl
  have x3 := XB2.out.cell 3 _ rfl
  have HM1 := Lib.hid (ga.cell HM1.out (by simp))
  clear g1 ga
  go_wp2_with fail
  refine (HC.out _).mono ?_
  rintro e w2 ⟨rfl, g2⟩
  have XB := Lib.hid (XB2.out.keepn g2)
  have YB := Lib.hid (YB.out.keepn g2)
  have G3 := Lib.hid (g_trans G2.out g2)
  have HW := Lib.hid (HW.out.keep g2)
  have m0 := g2.cell HM1.out (by simp)
  clear x0 x1 x2 x3 g2
  have x0 := XB.out.cell 0 _ rfl
  have y0 := YB.out.cell 0 _ rfl
  have y1 := YB.out.cell 1 _ rfl
  obtain ⟨am', mc', m0', -, -, mat⟩ := HW.out.mates
  rw [m0] at m0'
  cases m0'
  obtain ⟨g', hg', -, -, mx, mf⟩ := mat kn m hm
  cases hg'
  obtain ⟨g', hg', -, -, jx, jf⟩ := mat j mj hmj
  cases hg'
  have hkM : kn < M.length := (List.getElem?_eq_some_iff.1 hm).1
  have hkMi : (kn : Int) < M.length := by omega
  have hjM : j < M.length := (List.getElem?_eq_some_iff.1 hmj).1
  have hjMi : (j : Int) < M.length := by omega
  have hn2 : ¬ (j : Int) < 0 := by omega
  have HM0 := Lib.hid m0
  obtain ⟨q1, q2⟩ := HW.out.mset m0 kn j
  have H1 := Lib.hid (And.intro (q1.keep (g_drew (g_refl _ _))) (tr_then (tr_trans (tr_g G3.out _) q2 (fun i hi e => e)) (g_drew (g_refl _ _))))
  have gw := g_drew (g_set (g_refl w2 (some gm)) (p := ⟨gm, kn, none⟩) (.inl rfl) (.int .i64 (j : Int)))
  have m2 := gw.cell m0 (by simpa using Ne.symm mb)
  have z0 := gw.cell y0 (by simpa using hgne2)
  have z1 := gw.cell y1 (by simpa using hgne2)
  have M2 := Lib.hid m2
  have Z := Lib.hid (And.intro z0 z1)
  clear q1 q2 gw mat m2 z0 z1
  go_wp2_with fail
  go_region
  clear m0 mx mf jx jf y0 y1 x0
  generalize (w2.setCell ⟨gm, kn, none⟩ (.int .i64 (j : Int))).drew = w3 at *
  obtain ⟨am2, mc2', m2', -, -, mat⟩ := H1.out.1.mates
  have m2 := M2.out
  simp only [List.length_set] at m2'
  rw [m2] at m2'
  cases m2'
  obtain ⟨g', hg', -, -, jx, -⟩ := mat j q hq
  cases hg'
  have hqMi : (q : Int) < M.length := by omega
  obtain ⟨mj2, hmj2⟩ : ∃ y, (M.set kn (j : Int))[q]? = some y := ⟨_, List.getElem?_eq_getElem (by simpa using hqM)⟩
  obtain ⟨g', hg', -, -, kx, kf⟩ := mat q mj2 hmj2
  cases hg'
  have z0 : w3.cell? ⟨w1.heap.size, 0, none⟩ = some (.int .i64 (j : Int)) := Z.out.1
  have z1 : w3.cell? ⟨w1.heap.size, 1, none⟩ = some (.int .i64 1) := Z.out.2
  obtain ⟨q1, q2⟩ := H1.out.1.mset m2 q kn
  have H2 := Lib.hid (And.intro (q1.keep (g_drew (g_refl _ _))) (tr_then (tr_trans H1.out.2 q2 (fun i hi e => e)) (g_drew (g_refl _ _))))
  have HP := Lib.hid (pop_any _ _ _ _ _ _ _ _ _ H2.out.1)
  clear q1 q2 mat
  go_wp2_with fail
  go_region
  go_wp2_with fail
  refine HP.out.mono ?_
  rintro e w5 ⟨rfl, h5, t5⟩
  have H5 := Lib.hid (And.intro h5 t5)
  clear h5 t5
  go_wp2_with fail
  go_ret
  exact ⟨rfl, H5.out.1, tr_trans H2.out.2 H5.out.2 (fun i hi e => e)⟩
end Go.Proofs.Ytfobfcnbbafplaa
