/- The walk through a program: a step. -/
import Derived.Test.YtfobfcnbbafplaaG
import Derived.Test.YtfobfcnbbafplaaPK
namespace Go.Proofs.Ytfobfcnbbafplaa
open Go.RowKit
set_option linter.unusedVariables false
set_option linter.unusedSimpArgs false

/-- what a step answers, and leaves -/
def StepP (B b : Nat) (w w' : World) (e : Ending) (ok : Bool) (L T : List (Int × Int)) (M : List Int) (bad : Int) (deep : Bool) : Prop :=
  e = .returned (.bool ok) ∧ Wk w' B b L T M bad deep ∧ Tr (fun i => B ≤ i) w w'
theorem topP_neg {L : List (Int × Int)} (h : ∀ p ∈ L, 0 ≤ p.1) : (topP L).1 < 0 ↔ L = [] := by
  rcases List.eq_nil_or_concat L with rfl | ⟨R, p, rfl⟩
  · simp [topP_nil]
  · rw [List.concat_eq_append] at *
    rw [topP_snoc]
    have := h p (by simp)
    simp; omega

set_option maxRecDepth 100000 in
set_option maxHeartbeats 3200000 in
theorem step_not (B b : Nat) (L T : List (Int × Int)) (M : List Int) (bad : Int) (deep : Bool) (xk xa xb xc : Int) (k : Int) (w : World) (h : Wk w B b L T M bad deep) (hok : okx ⟨xk, xa, xb, xc⟩ = false) :
    Calls Try.prog 36 #[.pointer (some ⟨b, 0, none⟩), .int .i64 k, .agg #[.int .i64 xk, .int .i64 xa, .int .i64 xb, .int .i64 xc]] w fun e w' => StepP B b w w' e false (L) T (M) bad deep := by
  have HC : Hid (∀ w, Calls Try.prog 41 #[.agg #[.int .i64 xk, .int .i64 xa, .int .i64 xb, .int .i64 xc]] w fun e w' => e = .returned (.int .i64 (if okx ⟨xk, xa, xb, xc⟩ then 0 else 100)) ∧ w.grownBy w' none) := Lib.hid (chk_x ⟨xk, xa, xb, xc⟩)
  rw [hok] at HC
  have GA := Lib.hid (g_alloc (g_refl w none) (.cells #[.int .i64 xk, .int .i64 xa, .int .i64 xb, .int .i64 xc] 31))
  have XB := Lib.hid (Blk.new w #[.int .i64 xk, .int .i64 xa, .int .i64 xb, .int .i64 xc] 31)
  have x0 := XB.out.cell 0 _ rfl
  have x1 := XB.out.cell 1 _ rfl
  have x2 := XB.out.cell 2 _ rfl
  have x3 := XB.out.cell 3 _ rfl
  have HW := Lib.hid (h.keep GA.out)
  have HTOP := Lib.hid (top_any _ _ _ _ _ _ _ _ HW.out)
  obtain ⟨tb, htb⟩ : ∃ t, (topP L).1 = t := ⟨_, rfl⟩
  obtain ⟨tw, htw⟩ : ∃ t, (topP L).2 = t := ⟨_, rfl⟩
  rw [htb, htw] at HTOP
  clear h hok
  go_enter Try.func36, Try.ntmps36
  go_wp2_with fail
  refine HTOP.out.mono ?_
  rintro e w1 ⟨rfl, g1⟩
  have XB := Lib.hid (XB.out.keepn g1)
  have G1 := Lib.hid (g_trans GA.out g1)
  have HW := Lib.hid (HW.out.keep g1)
  have YB := Lib.hid (Blk.new w1 #[.int .i64 tb, .int .i64 tw] 61)
  have ga := g_alloc (g_refl w1 none) (.cells #[.int .i64 tb, .int .i64 tw] 61)
  have XB2 := Lib.hid (XB.out.keepn ga)
  have HW := Lib.hid (HW.out.keep ga)
  have G2 := Lib.hid (g_trans G1.out ga)
  clear x0 x1 x2 x3
  have x0 := XB2.out.cell 0 _ rfl
  have x1 := XB2.out.cell 1 _ rfl
  have x2 := XB2.out.cell 2 _ rfl
  have x3 := XB2.out.cell 3 _ rfl
  clear g1 ga
  go_wp2_with fail
  refine (HC.out _).mono ?_
  rintro e w2 ⟨rfl, g2⟩
  have XB := Lib.hid (XB2.out.keepn g2)
  have YB := Lib.hid (YB.out.keepn g2)
  have G3 := Lib.hid (g_trans G2.out g2)
  have HW := Lib.hid (HW.out.keep g2)
  clear x0 x1 x2 x3 g2
  have x0 := XB.out.cell 0 _ rfl
  have y0 := YB.out.cell 0 _ rfl
  have y1 := YB.out.cell 1 _ rfl
  go_wp2_with fail
  go_ret
  exact ⟨rfl, HW.out, tr_g G3.out _⟩
set_option maxRecDepth 100000 in
set_option maxHeartbeats 3200000 in
theorem step_full (B b : Nat) (L T : List (Int × Int)) (M : List Int) (bad : Int) (deep : Bool) (xa xb xc : Int) (k : Int) (w : World) (h : Wk w B b L T M bad deep) (hok : okx ⟨15, xa, xb, xc⟩ = true) (hl : 8 ≤ L.length) :
    Calls Try.prog 36 #[.pointer (some ⟨b, 0, none⟩), .int .i64 k, .agg #[.int .i64 15, .int .i64 xa, .int .i64 xb, .int .i64 xc]] w fun e w' => StepP B b w w' e false (L) T (M) bad true := by
  have HC : Hid (∀ w, Calls Try.prog 41 #[.agg #[.int .i64 15, .int .i64 xa, .int .i64 xb, .int .i64 xc]] w fun e w' => e = .returned (.int .i64 (if okx ⟨15, xa, xb, xc⟩ then 0 else 100)) ∧ w.grownBy w' none) := Lib.hid (chk_x ⟨15, xa, xb, xc⟩)
  rw [hok] at HC
  have GA := Lib.hid (g_alloc (g_refl w none) (.cells #[.int .i64 15, .int .i64 xa, .int .i64 xb, .int .i64 xc] 31))
  have XB := Lib.hid (Blk.new w #[.int .i64 15, .int .i64 xa, .int .i64 xb, .int .i64 xc] 31)
  have x0 := XB.out.cell 0 _ rfl
  have x1 := XB.out.cell 1 _ rfl
  have x2 := XB.out.cell 2 _ rfl
  have x3 := XB.out.cell 3 _ rfl
  have HW := Lib.hid (h.keep GA.out)
  have HTOP := Lib.hid (top_any _ _ _ _ _ _ _ _ HW.out)
  obtain ⟨tb, htb⟩ : ∃ t, (topP L).1 = t := ⟨_, rfl⟩
  obtain ⟨tw, htw⟩ : ∃ t, (topP L).2 = t := ⟨_, rfl⟩
  rw [htb, htw] at HTOP
  clear h hok
  go_enter Try.func36, Try.ntmps36
  go_wp2_with fail
  refine HTOP.out.mono ?_
  rintro e w1 ⟨rfl, g1⟩
  have XB := Lib.hid (XB.out.keepn g1)
  have G1 := Lib.hid (g_trans GA.out g1)
  have HW := Lib.hid (HW.out.keep g1)
  have YB := Lib.hid (Blk.new w1 #[.int .i64 tb, .int .i64 tw] 61)
  have ga := g_alloc (g_refl w1 none) (.cells #[.int .i64 tb, .int .i64 tw] 61)
  have XB2 := Lib.hid (XB.out.keepn ga)
  have HW := Lib.hid (HW.out.keep ga)
  have G2 := Lib.hid (g_trans G1.out ga)
  clear x0 x1 x2 x3
  have x0 := XB2.out.cell 0 _ rfl
  have x1 := XB2.out.cell 1 _ rfl
  have x2 := XB2.out.cell 2 _ rfl
  have x3 := XB2.out.cell 3 _ rfl
  clear g1 ga
  go_wp2_with fail
  refine (HC.out _).mono ?_
  rintro e w2 ⟨rfl, g2⟩
  have XB := Lib.hid (XB2.out.keepn g2)
  have YB := Lib.hid (YB.out.keepn g2)
  have G3 := Lib.hid (g_trans G2.out g2)
  have HW := Lib.hid (HW.out.keep g2)
  clear x0 x1 x2 x3 g2
  have x0 := XB.out.cell 0 _ rfl
  have y0 := YB.out.cell 0 _ rfl
  have y1 := YB.out.cell 1 _ rfl
  obtain ⟨la, lc, l0, lr, lc1, lc2⟩ := HW.out.row
  obtain ⟨d0, d1, d2, d3⟩ := HW.out.dset true
  have HD := Lib.hid (And.intro d2 d3)
  have hl8 : (8 : Int) ≤ L.length := by omega
  clear d2 d3 lr
  go_wp2_with fail
  go_ret
  exact ⟨rfl, HD.out.1, tr_trans (tr_g G3.out _) HD.out.2 (fun i hi e => e)⟩
set_option maxRecDepth 100000 in
set_option maxHeartbeats 3200000 in
theorem step_begin (B b : Nat) (L T : List (Int × Int)) (M : List Int) (bad : Int) (deep : Bool) (xa xb xc : Int) (k : Int) (w : World) (h : Wk w B b L T M bad deep) (hok : okx ⟨15, xa, xb, xc⟩ = true) (hl : L.length < 8) :
    Calls Try.prog 36 #[.pointer (some ⟨b, 0, none⟩), .int .i64 k, .agg #[.int .i64 15, .int .i64 xa, .int .i64 xb, .int .i64 xc]] w fun e w' => StepP B b w w' e true (L ++ [(k, 0)]) T (M) bad deep := by
  have HC : Hid (∀ w, Calls Try.prog 41 #[.agg #[.int .i64 15, .int .i64 xa, .int .i64 xb, .int .i64 xc]] w fun e w' => e = .returned (.int .i64 (if okx ⟨15, xa, xb, xc⟩ then 0 else 100)) ∧ w.grownBy w' none) := Lib.hid (chk_x ⟨15, xa, xb, xc⟩)
  rw [hok] at HC
  have GA := Lib.hid (g_alloc (g_refl w none) (.cells #[.int .i64 15, .int .i64 xa, .int .i64 xb, .int .i64 xc] 31))
  have XB := Lib.hid (Blk.new w #[.int .i64 15, .int .i64 xa, .int .i64 xb, .int .i64 xc] 31)
  have x0 := XB.out.cell 0 _ rfl
  have x1 := XB.out.cell 1 _ rfl
  have x2 := XB.out.cell 2 _ rfl
  have x3 := XB.out.cell 3 _ rfl
  have HW := Lib.hid (h.keep GA.out)
  have HTOP := Lib.hid (top_any _ _ _ _ _ _ _ _ HW.out)
  obtain ⟨tb, htb⟩ : ∃ t, (topP L).1 = t := ⟨_, rfl⟩
  obtain ⟨tw, htw⟩ : ∃ t, (topP L).2 = t := ⟨_, rfl⟩
  rw [htb, htw] at HTOP
  clear h hok
  go_enter Try.func36, Try.ntmps36
  go_wp2_with fail
  refine HTOP.out.mono ?_
  rintro e w1 ⟨rfl, g1⟩
  have XB := Lib.hid (XB.out.keepn g1)
  have G1 := Lib.hid (g_trans GA.out g1)
  have HW := Lib.hid (HW.out.keep g1)
  have YB := Lib.hid (Blk.new w1 #[.int .i64 tb, .int .i64 tw] 61)
  have ga := g_alloc (g_refl w1 none) (.cells #[.int .i64 tb, .int .i64 tw] 61)
  have XB2 := Lib.hid (XB.out.keepn ga)
  have HW := Lib.hid (HW.out.keep ga)
  have G2 := Lib.hid (g_trans G1.out ga)
  clear x0 x1 x2 x3
  have x0 := XB2.out.cell 0 _ rfl
  have x1 := XB2.out.cell 1 _ rfl
  have x2 := XB2.out.cell 2 _ rfl
  have x3 := XB2.out.cell 3 _ rfl
  clear g1 ga
  go_wp2_with fail
  refine (HC.out _).mono ?_
  rintro e w2 ⟨rfl, g2⟩
  have XB := Lib.hid (XB2.out.keepn g2)
  have YB := Lib.hid (YB.out.keepn g2)
  have G3 := Lib.hid (g_trans G2.out g2)
  have HW := Lib.hid (HW.out.keep g2)
  clear x0 x1 x2 x3 g2
  have x0 := XB.out.cell 0 _ rfl
  have y0 := YB.out.cell 0 _ rfl
  have y1 := YB.out.cell 1 _ rfl
  obtain ⟨la, lc, l0, lr, lc1, lc2⟩ := HW.out.row
  have hl8 : ¬ (8 : Int) ≤ L.length := by omega
  have HP := Lib.hid (push_any _ _ _ _ _ _ _ _ HW.out k 0 (by omega))
  clear lr
  go_wp2_with fail
  refine HP.out.mono ?_
  rintro e w3 ⟨rfl, hw3, ht3⟩
  have H3 := Lib.hid (And.intro hw3 ht3)
  clear hw3 ht3
  go_wp2_with fail
  go_ret
  exact ⟨rfl, H3.out.1, tr_trans (tr_g G3.out _) H3.out.2 (fun i hi e => e)⟩
set_option maxRecDepth 100000 in
set_option maxHeartbeats 3200000 in
theorem step_else_none (B b : Nat) (L T : List (Int × Int)) (M : List Int) (bad : Int) (deep : Bool) (xa xb xc : Int) (k : Int) (w : World) (h : Wk w B b L T M bad deep) (hok : okx ⟨16, xa, xb, xc⟩ = true) (hn : (topP L).1 < 0) :
    Calls Try.prog 36 #[.pointer (some ⟨b, 0, none⟩), .int .i64 k, .agg #[.int .i64 16, .int .i64 xa, .int .i64 xb, .int .i64 xc]] w fun e w' => StepP B b w w' e false (L) T (M) bad deep := by
  have HC : Hid (∀ w, Calls Try.prog 41 #[.agg #[.int .i64 16, .int .i64 xa, .int .i64 xb, .int .i64 xc]] w fun e w' => e = .returned (.int .i64 (if okx ⟨16, xa, xb, xc⟩ then 0 else 100)) ∧ w.grownBy w' none) := Lib.hid (chk_x ⟨16, xa, xb, xc⟩)
  rw [hok] at HC
  have GA := Lib.hid (g_alloc (g_refl w none) (.cells #[.int .i64 16, .int .i64 xa, .int .i64 xb, .int .i64 xc] 31))
  have XB := Lib.hid (Blk.new w #[.int .i64 16, .int .i64 xa, .int .i64 xb, .int .i64 xc] 31)
  have x0 := XB.out.cell 0 _ rfl
  have x1 := XB.out.cell 1 _ rfl
  have x2 := XB.out.cell 2 _ rfl
  have x3 := XB.out.cell 3 _ rfl
  have HW := Lib.hid (h.keep GA.out)
  have HTOP := Lib.hid (top_any _ _ _ _ _ _ _ _ HW.out)
  obtain ⟨tb, htb⟩ : ∃ t, (topP L).1 = t := ⟨_, rfl⟩
  obtain ⟨tw, htw⟩ : ∃ t, (topP L).2 = t := ⟨_, rfl⟩
  rw [htb, htw] at HTOP
  rw [htb] at hn
  clear h hok
  go_enter Try.func36, Try.ntmps36
  go_wp2_with fail
  refine HTOP.out.mono ?_
  rintro e w1 ⟨rfl, g1⟩
  have XB := Lib.hid (XB.out.keepn g1)
  have G1 := Lib.hid (g_trans GA.out g1)
  have HW := Lib.hid (HW.out.keep g1)
  have YB := Lib.hid (Blk.new w1 #[.int .i64 tb, .int .i64 tw] 61)
  have ga := g_alloc (g_refl w1 none) (.cells #[.int .i64 tb, .int .i64 tw] 61)
  have XB2 := Lib.hid (XB.out.keepn ga)
  have HW := Lib.hid (HW.out.keep ga)
  have G2 := Lib.hid (g_trans G1.out ga)
  clear x0 x1 x2 x3
  have x0 := XB2.out.cell 0 _ rfl
  have x1 := XB2.out.cell 1 _ rfl
  have x2 := XB2.out.cell 2 _ rfl
  have x3 := XB2.out.cell 3 _ rfl
  clear g1 ga
  go_wp2_with fail
  refine (HC.out _).mono ?_
  rintro e w2 ⟨rfl, g2⟩
  have XB := Lib.hid (XB2.out.keepn g2)
  have YB := Lib.hid (YB.out.keepn g2)
  have G3 := Lib.hid (g_trans G2.out g2)
  have HW := Lib.hid (HW.out.keep g2)
  clear x0 x1 x2 x3 g2
  have x0 := XB.out.cell 0 _ rfl
  have y0 := YB.out.cell 0 _ rfl
  have y1 := YB.out.cell 1 _ rfl
  go_wp2_with fail
  go_ret
  exact ⟨rfl, HW.out, tr_g G3.out _⟩
set_option maxRecDepth 100000 in
set_option maxHeartbeats 3200000 in
theorem step_else_one (B b : Nat) (L T : List (Int × Int)) (M : List Int) (bad : Int) (deep : Bool) (xa xb xc : Int) (k : Int) (w : World) (h : Wk w B b L T M bad deep) (hok : okx ⟨16, xa, xb, xc⟩ = true) (hn : 0 ≤ (topP L).1) (hw : (topP L).2 = 1) :
    Calls Try.prog 36 #[.pointer (some ⟨b, 0, none⟩), .int .i64 k, .agg #[.int .i64 16, .int .i64 xa, .int .i64 xb, .int .i64 xc]] w fun e w' => StepP B b w w' e false (L) T (M) bad deep := by
  have HC : Hid (∀ w, Calls Try.prog 41 #[.agg #[.int .i64 16, .int .i64 xa, .int .i64 xb, .int .i64 xc]] w fun e w' => e = .returned (.int .i64 (if okx ⟨16, xa, xb, xc⟩ then 0 else 100)) ∧ w.grownBy w' none) := Lib.hid (chk_x ⟨16, xa, xb, xc⟩)
  rw [hok] at HC
  have GA := Lib.hid (g_alloc (g_refl w none) (.cells #[.int .i64 16, .int .i64 xa, .int .i64 xb, .int .i64 xc] 31))
  have XB := Lib.hid (Blk.new w #[.int .i64 16, .int .i64 xa, .int .i64 xb, .int .i64 xc] 31)
  have x0 := XB.out.cell 0 _ rfl
  have x1 := XB.out.cell 1 _ rfl
  have x2 := XB.out.cell 2 _ rfl
  have x3 := XB.out.cell 3 _ rfl
  have HW := Lib.hid (h.keep GA.out)
  have HTOP := Lib.hid (top_any _ _ _ _ _ _ _ _ HW.out)
  obtain ⟨tb, htb⟩ : ∃ t, (topP L).1 = t := ⟨_, rfl⟩
  obtain ⟨tw, htw⟩ : ∃ t, (topP L).2 = t := ⟨_, rfl⟩
  rw [htb, htw] at HTOP
  rw [htb] at hn
  rw [htw] at hw
  have hw1 : (tw == 1) = true := by simp [hw]
  clear hw
  clear h hok
  go_enter Try.func36, Try.ntmps36
  go_wp2_with fail
  refine HTOP.out.mono ?_
  rintro e w1 ⟨rfl, g1⟩
  have XB := Lib.hid (XB.out.keepn g1)
  have G1 := Lib.hid (g_trans GA.out g1)
  have HW := Lib.hid (HW.out.keep g1)
  have YB := Lib.hid (Blk.new w1 #[.int .i64 tb, .int .i64 tw] 61)
  have ga := g_alloc (g_refl w1 none) (.cells #[.int .i64 tb, .int .i64 tw] 61)
  have XB2 := Lib.hid (XB.out.keepn ga)
  have HW := Lib.hid (HW.out.keep ga)
  have G2 := Lib.hid (g_trans G1.out ga)
  clear x0 x1 x2 x3
  have x0 := XB2.out.cell 0 _ rfl
  have x1 := XB2.out.cell 1 _ rfl
  have x2 := XB2.out.cell 2 _ rfl
  have x3 := XB2.out.cell 3 _ rfl
  clear g1 ga
  go_wp2_with fail
  refine (HC.out _).mono ?_
  rintro e w2 ⟨rfl, g2⟩
  have XB := Lib.hid (XB2.out.keepn g2)
  have YB := Lib.hid (YB.out.keepn g2)
  have G3 := Lib.hid (g_trans G2.out g2)
  have HW := Lib.hid (HW.out.keep g2)
  clear x0 x1 x2 x3 g2
  have x0 := XB.out.cell 0 _ rfl
  have y0 := YB.out.cell 0 _ rfl
  have y1 := YB.out.cell 1 _ rfl
  have hn2 : ¬ tb < 0 := by omega
  go_wp2_with fail
  go_ret
  exact ⟨rfl, HW.out, tr_g G3.out _⟩
set_option maxRecDepth 100000 in
set_option maxHeartbeats 3200000 in
theorem step_end_none (B b : Nat) (L T : List (Int × Int)) (M : List Int) (bad : Int) (deep : Bool) (xa xb xc : Int) (k : Int) (w : World) (h : Wk w B b L T M bad deep) (hok : okx ⟨17, xa, xb, xc⟩ = true) (hn : (topP L).1 < 0) :
    Calls Try.prog 36 #[.pointer (some ⟨b, 0, none⟩), .int .i64 k, .agg #[.int .i64 17, .int .i64 xa, .int .i64 xb, .int .i64 xc]] w fun e w' => StepP B b w w' e false (L) T (M) bad deep := by
  have HC : Hid (∀ w, Calls Try.prog 41 #[.agg #[.int .i64 17, .int .i64 xa, .int .i64 xb, .int .i64 xc]] w fun e w' => e = .returned (.int .i64 (if okx ⟨17, xa, xb, xc⟩ then 0 else 100)) ∧ w.grownBy w' none) := Lib.hid (chk_x ⟨17, xa, xb, xc⟩)
  rw [hok] at HC
  have GA := Lib.hid (g_alloc (g_refl w none) (.cells #[.int .i64 17, .int .i64 xa, .int .i64 xb, .int .i64 xc] 31))
  have XB := Lib.hid (Blk.new w #[.int .i64 17, .int .i64 xa, .int .i64 xb, .int .i64 xc] 31)
  have x0 := XB.out.cell 0 _ rfl
  have x1 := XB.out.cell 1 _ rfl
  have x2 := XB.out.cell 2 _ rfl
  have x3 := XB.out.cell 3 _ rfl
  have HW := Lib.hid (h.keep GA.out)
  have HTOP := Lib.hid (top_any _ _ _ _ _ _ _ _ HW.out)
  obtain ⟨tb, htb⟩ : ∃ t, (topP L).1 = t := ⟨_, rfl⟩
  obtain ⟨tw, htw⟩ : ∃ t, (topP L).2 = t := ⟨_, rfl⟩
  rw [htb, htw] at HTOP
  rw [htb] at hn
  clear h hok
  go_enter Try.func36, Try.ntmps36
  go_wp2_with fail
  refine HTOP.out.mono ?_
  rintro e w1 ⟨rfl, g1⟩
  have XB := Lib.hid (XB.out.keepn g1)
  have G1 := Lib.hid (g_trans GA.out g1)
  have HW := Lib.hid (HW.out.keep g1)
  have YB := Lib.hid (Blk.new w1 #[.int .i64 tb, .int .i64 tw] 61)
  have ga := g_alloc (g_refl w1 none) (.cells #[.int .i64 tb, .int .i64 tw] 61)
  have XB2 := Lib.hid (XB.out.keepn ga)
  have HW := Lib.hid (HW.out.keep ga)
  have G2 := Lib.hid (g_trans G1.out ga)
  clear x0 x1 x2 x3
  have x0 := XB2.out.cell 0 _ rfl
  have x1 := XB2.out.cell 1 _ rfl
  have x2 := XB2.out.cell 2 _ rfl
  have x3 := XB2.out.cell 3 _ rfl
  clear g1 ga
  go_wp2_with fail
  refine (HC.out _).mono ?_
  rintro e w2 ⟨rfl, g2⟩
  have XB := Lib.hid (XB2.out.keepn g2)
  have YB := Lib.hid (YB.out.keepn g2)
  have G3 := Lib.hid (g_trans G2.out g2)
  have HW := Lib.hid (HW.out.keep g2)
  clear x0 x1 x2 x3 g2
  have x0 := XB.out.cell 0 _ rfl
  have y0 := YB.out.cell 0 _ rfl
  have y1 := YB.out.cell 1 _ rfl
  go_wp2_with fail
  go_ret
  exact ⟨rfl, HW.out, tr_g G3.out _⟩
set_option maxRecDepth 100000 in
set_option maxHeartbeats 3200000 in
theorem step_retry_none (B b : Nat) (L T : List (Int × Int)) (M : List Int) (bad : Int) (deep : Bool) (xa xb xc : Int) (k : Int) (w : World) (h : Wk w B b L T M bad deep) (hok : okx ⟨18, xa, xb, xc⟩ = true) (hn : (topP L).1 < 0) :
    Calls Try.prog 36 #[.pointer (some ⟨b, 0, none⟩), .int .i64 k, .agg #[.int .i64 18, .int .i64 xa, .int .i64 xb, .int .i64 xc]] w fun e w' => StepP B b w w' e false (L) T (M) bad deep := by
  have HC : Hid (∀ w, Calls Try.prog 41 #[.agg #[.int .i64 18, .int .i64 xa, .int .i64 xb, .int .i64 xc]] w fun e w' => e = .returned (.int .i64 (if okx ⟨18, xa, xb, xc⟩ then 0 else 100)) ∧ w.grownBy w' none) := Lib.hid (chk_x ⟨18, xa, xb, xc⟩)
  rw [hok] at HC
  have GA := Lib.hid (g_alloc (g_refl w none) (.cells #[.int .i64 18, .int .i64 xa, .int .i64 xb, .int .i64 xc] 31))
  have XB := Lib.hid (Blk.new w #[.int .i64 18, .int .i64 xa, .int .i64 xb, .int .i64 xc] 31)
  have x0 := XB.out.cell 0 _ rfl
  have x1 := XB.out.cell 1 _ rfl
  have x2 := XB.out.cell 2 _ rfl
  have x3 := XB.out.cell 3 _ rfl
  have HW := Lib.hid (h.keep GA.out)
  have HTOP := Lib.hid (top_any _ _ _ _ _ _ _ _ HW.out)
  obtain ⟨tb, htb⟩ : ∃ t, (topP L).1 = t := ⟨_, rfl⟩
  obtain ⟨tw, htw⟩ : ∃ t, (topP L).2 = t := ⟨_, rfl⟩
  rw [htb, htw] at HTOP
  rw [htb] at hn
  clear h hok
  go_enter Try.func36, Try.ntmps36
  go_wp2_with fail
  refine HTOP.out.mono ?_
  rintro e w1 ⟨rfl, g1⟩
  have XB := Lib.hid (XB.out.keepn g1)
  have G1 := Lib.hid (g_trans GA.out g1)
  have HW := Lib.hid (HW.out.keep g1)
  have YB := Lib.hid (Blk.new w1 #[.int .i64 tb, .int .i64 tw] 61)
  have ga := g_alloc (g_refl w1 none) (.cells #[.int .i64 tb, .int .i64 tw] 61)
  have XB2 := Lib.hid (XB.out.keepn ga)
  have HW := Lib.hid (HW.out.keep ga)
  have G2 := Lib.hid (g_trans G1.out ga)
  clear x0 x1 x2 x3
  have x0 := XB2.out.cell 0 _ rfl
  have x1 := XB2.out.cell 1 _ rfl
  have x2 := XB2.out.cell 2 _ rfl
  have x3 := XB2.out.cell 3 _ rfl
  clear g1 ga
  go_wp2_with fail
  refine (HC.out _).mono ?_
  rintro e w2 ⟨rfl, g2⟩
  have XB := Lib.hid (XB2.out.keepn g2)
  have YB := Lib.hid (YB.out.keepn g2)
  have G3 := Lib.hid (g_trans G2.out g2)
  have HW := Lib.hid (HW.out.keep g2)
  clear x0 x1 x2 x3 g2
  have x0 := XB.out.cell 0 _ rfl
  have y0 := YB.out.cell 0 _ rfl
  have y1 := YB.out.cell 1 _ rfl
  have hn2 : ¬ 0 ≤ tb := by omega
  go_wp2_with fail
  go_ret
  exact ⟨by simp [hn2], HW.out, tr_g G3.out _⟩
set_option maxRecDepth 100000 in
set_option maxHeartbeats 3200000 in
theorem step_retry_some (B b : Nat) (L T : List (Int × Int)) (M : List Int) (bad : Int) (deep : Bool) (xa xb xc : Int) (k : Int) (w : World) (h : Wk w B b L T M bad deep) (hok : okx ⟨18, xa, xb, xc⟩ = true) (hn : 0 ≤ (topP L).1) :
    Calls Try.prog 36 #[.pointer (some ⟨b, 0, none⟩), .int .i64 k, .agg #[.int .i64 18, .int .i64 xa, .int .i64 xb, .int .i64 xc]] w fun e w' => StepP B b w w' e true (L) T (M) bad deep := by
  have HC : Hid (∀ w, Calls Try.prog 41 #[.agg #[.int .i64 18, .int .i64 xa, .int .i64 xb, .int .i64 xc]] w fun e w' => e = .returned (.int .i64 (if okx ⟨18, xa, xb, xc⟩ then 0 else 100)) ∧ w.grownBy w' none) := Lib.hid (chk_x ⟨18, xa, xb, xc⟩)
  rw [hok] at HC
  have GA := Lib.hid (g_alloc (g_refl w none) (.cells #[.int .i64 18, .int .i64 xa, .int .i64 xb, .int .i64 xc] 31))
  have XB := Lib.hid (Blk.new w #[.int .i64 18, .int .i64 xa, .int .i64 xb, .int .i64 xc] 31)
  have x0 := XB.out.cell 0 _ rfl
  have x1 := XB.out.cell 1 _ rfl
  have x2 := XB.out.cell 2 _ rfl
  have x3 := XB.out.cell 3 _ rfl
  have HW := Lib.hid (h.keep GA.out)
  have HTOP := Lib.hid (top_any _ _ _ _ _ _ _ _ HW.out)
  obtain ⟨tb, htb⟩ : ∃ t, (topP L).1 = t := ⟨_, rfl⟩
  obtain ⟨tw, htw⟩ : ∃ t, (topP L).2 = t := ⟨_, rfl⟩
  rw [htb, htw] at HTOP
  rw [htb] at hn
  clear h hok
  go_enter Try.func36, Try.ntmps36
  go_wp2_with fail
  refine HTOP.out.mono ?_
  rintro e w1 ⟨rfl, g1⟩
  have XB := Lib.hid (XB.out.keepn g1)
  have G1 := Lib.hid (g_trans GA.out g1)
  have HW := Lib.hid (HW.out.keep g1)
  have YB := Lib.hid (Blk.new w1 #[.int .i64 tb, .int .i64 tw] 61)
  have ga := g_alloc (g_refl w1 none) (.cells #[.int .i64 tb, .int .i64 tw] 61)
  have XB2 := Lib.hid (XB.out.keepn ga)
  have HW := Lib.hid (HW.out.keep ga)
  have G2 := Lib.hid (g_trans G1.out ga)
  clear x0 x1 x2 x3
  have x0 := XB2.out.cell 0 _ rfl
  have x1 := XB2.out.cell 1 _ rfl
  have x2 := XB2.out.cell 2 _ rfl
  have x3 := XB2.out.cell 3 _ rfl
  clear g1 ga
  go_wp2_with fail
  refine (HC.out _).mono ?_
  rintro e w2 ⟨rfl, g2⟩
  have XB := Lib.hid (XB2.out.keepn g2)
  have YB := Lib.hid (YB.out.keepn g2)
  have G3 := Lib.hid (g_trans G2.out g2)
  have HW := Lib.hid (HW.out.keep g2)
  clear x0 x1 x2 x3 g2
  have x0 := XB.out.cell 0 _ rfl
  have y0 := YB.out.cell 0 _ rfl
  have y1 := YB.out.cell 1 _ rfl
  have hn2 : ¬ tb < 0 := by omega
  go_wp2_with fail
  go_ret
  exact ⟨rfl, HW.out, tr_g G3.out _⟩
set_option maxRecDepth 100000 in
set_option maxHeartbeats 3200000 in
theorem step_halt_none (B b : Nat) (L T : List (Int × Int)) (M : List Int) (bad : Int) (deep : Bool) (xa xb xc : Int) (k : Int) (w : World) (h : Wk w B b L T M bad deep) (hok : okx ⟨20, xa, xb, xc⟩ = true) (hn : (topP L).1 < 0) :
    Calls Try.prog 36 #[.pointer (some ⟨b, 0, none⟩), .int .i64 k, .agg #[.int .i64 20, .int .i64 xa, .int .i64 xb, .int .i64 xc]] w fun e w' => StepP B b w w' e true (L) T (M) bad deep := by
  have HC : Hid (∀ w, Calls Try.prog 41 #[.agg #[.int .i64 20, .int .i64 xa, .int .i64 xb, .int .i64 xc]] w fun e w' => e = .returned (.int .i64 (if okx ⟨20, xa, xb, xc⟩ then 0 else 100)) ∧ w.grownBy w' none) := Lib.hid (chk_x ⟨20, xa, xb, xc⟩)
  rw [hok] at HC
  have GA := Lib.hid (g_alloc (g_refl w none) (.cells #[.int .i64 20, .int .i64 xa, .int .i64 xb, .int .i64 xc] 31))
  have XB := Lib.hid (Blk.new w #[.int .i64 20, .int .i64 xa, .int .i64 xb, .int .i64 xc] 31)
  have x0 := XB.out.cell 0 _ rfl
  have x1 := XB.out.cell 1 _ rfl
  have x2 := XB.out.cell 2 _ rfl
  have x3 := XB.out.cell 3 _ rfl
  have HW := Lib.hid (h.keep GA.out)
  have HTOP := Lib.hid (top_any _ _ _ _ _ _ _ _ HW.out)
  obtain ⟨tb, htb⟩ : ∃ t, (topP L).1 = t := ⟨_, rfl⟩
  obtain ⟨tw, htw⟩ : ∃ t, (topP L).2 = t := ⟨_, rfl⟩
  rw [htb, htw] at HTOP
  rw [htb] at hn
  clear h hok
  go_enter Try.func36, Try.ntmps36
  go_wp2_with fail
  refine HTOP.out.mono ?_
  rintro e w1 ⟨rfl, g1⟩
  have XB := Lib.hid (XB.out.keepn g1)
  have G1 := Lib.hid (g_trans GA.out g1)
  have HW := Lib.hid (HW.out.keep g1)
  have YB := Lib.hid (Blk.new w1 #[.int .i64 tb, .int .i64 tw] 61)
  have ga := g_alloc (g_refl w1 none) (.cells #[.int .i64 tb, .int .i64 tw] 61)
  have XB2 := Lib.hid (XB.out.keepn ga)
  have HW := Lib.hid (HW.out.keep ga)
  have G2 := Lib.hid (g_trans G1.out ga)
  clear x0 x1 x2 x3
  have x0 := XB2.out.cell 0 _ rfl
  have x1 := XB2.out.cell 1 _ rfl
  have x2 := XB2.out.cell 2 _ rfl
  have x3 := XB2.out.cell 3 _ rfl
  clear g1 ga
  go_wp2_with fail
  refine (HC.out _).mono ?_
  rintro e w2 ⟨rfl, g2⟩
  have XB := Lib.hid (XB2.out.keepn g2)
  have YB := Lib.hid (YB.out.keepn g2)
  have G3 := Lib.hid (g_trans G2.out g2)
  have HW := Lib.hid (HW.out.keep g2)
  clear x0 x1 x2 x3 g2
  have x0 := XB.out.cell 0 _ rfl
  have y0 := YB.out.cell 0 _ rfl
  have y1 := YB.out.cell 1 _ rfl
  have hn2 : ¬ 0 ≤ tb := by omega
  go_wp2_with fail
  go_ret
  exact ⟨rfl, HW.out, tr_g G3.out _⟩
set_option maxRecDepth 100000 in
set_option maxHeartbeats 3200000 in
theorem step_halt_some (B b : Nat) (L T : List (Int × Int)) (M : List Int) (bad : Int) (deep : Bool) (xa xb xc : Int) (k : Int) (w : World) (h : Wk w B b L T M bad deep) (hok : okx ⟨20, xa, xb, xc⟩ = true) (hn : 0 ≤ (topP L).1) :
    Calls Try.prog 36 #[.pointer (some ⟨b, 0, none⟩), .int .i64 k, .agg #[.int .i64 20, .int .i64 xa, .int .i64 xb, .int .i64 xc]] w fun e w' => StepP B b w w' e false (L) T (M) bad deep := by
  have HC : Hid (∀ w, Calls Try.prog 41 #[.agg #[.int .i64 20, .int .i64 xa, .int .i64 xb, .int .i64 xc]] w fun e w' => e = .returned (.int .i64 (if okx ⟨20, xa, xb, xc⟩ then 0 else 100)) ∧ w.grownBy w' none) := Lib.hid (chk_x ⟨20, xa, xb, xc⟩)
  rw [hok] at HC
  have GA := Lib.hid (g_alloc (g_refl w none) (.cells #[.int .i64 20, .int .i64 xa, .int .i64 xb, .int .i64 xc] 31))
  have XB := Lib.hid (Blk.new w #[.int .i64 20, .int .i64 xa, .int .i64 xb, .int .i64 xc] 31)
  have x0 := XB.out.cell 0 _ rfl
  have x1 := XB.out.cell 1 _ rfl
  have x2 := XB.out.cell 2 _ rfl
  have x3 := XB.out.cell 3 _ rfl
  have HW := Lib.hid (h.keep GA.out)
  have HTOP := Lib.hid (top_any _ _ _ _ _ _ _ _ HW.out)
  obtain ⟨tb, htb⟩ : ∃ t, (topP L).1 = t := ⟨_, rfl⟩
  obtain ⟨tw, htw⟩ : ∃ t, (topP L).2 = t := ⟨_, rfl⟩
  rw [htb, htw] at HTOP
  rw [htb] at hn
  clear h hok
  go_enter Try.func36, Try.ntmps36
  go_wp2_with fail
  refine HTOP.out.mono ?_
  rintro e w1 ⟨rfl, g1⟩
  have XB := Lib.hid (XB.out.keepn g1)
  have G1 := Lib.hid (g_trans GA.out g1)
  have HW := Lib.hid (HW.out.keep g1)
  have YB := Lib.hid (Blk.new w1 #[.int .i64 tb, .int .i64 tw] 61)
  have ga := g_alloc (g_refl w1 none) (.cells #[.int .i64 tb, .int .i64 tw] 61)
  have XB2 := Lib.hid (XB.out.keepn ga)
  have HW := Lib.hid (HW.out.keep ga)
  have G2 := Lib.hid (g_trans G1.out ga)
  clear x0 x1 x2 x3
  have x0 := XB2.out.cell 0 _ rfl
  have x1 := XB2.out.cell 1 _ rfl
  have x2 := XB2.out.cell 2 _ rfl
  have x3 := XB2.out.cell 3 _ rfl
  clear g1 ga
  go_wp2_with fail
  refine (HC.out _).mono ?_
  rintro e w2 ⟨rfl, g2⟩
  have XB := Lib.hid (XB2.out.keepn g2)
  have YB := Lib.hid (YB.out.keepn g2)
  have G3 := Lib.hid (g_trans G2.out g2)
  have HW := Lib.hid (HW.out.keep g2)
  clear x0 x1 x2 x3 g2
  have x0 := XB.out.cell 0 _ rfl
  have y0 := YB.out.cell 0 _ rfl
  have y1 := YB.out.cell 1 _ rfl
  have hn2 : ¬ tb < 0 := by omega
  go_wp2_with fail
  go_ret
  exact ⟨by simp [hn2], HW.out, tr_g G3.out _⟩
set_option maxRecDepth 100000 in
set_option maxHeartbeats 3200000 in
theorem step_other (B b : Nat) (L T : List (Int × Int)) (M : List Int) (bad : Int) (deep : Bool) (xk xa xb xc : Int) (k : Int) (w : World) (h : Wk w B b L T M bad deep) (hok : okx ⟨xk, xa, xb, xc⟩ = true) (hk : xk ≠ 15 ∧ xk ≠ 16 ∧ xk ≠ 17 ∧ xk ≠ 18 ∧ xk ≠ 20) :
    Calls Try.prog 36 #[.pointer (some ⟨b, 0, none⟩), .int .i64 k, .agg #[.int .i64 xk, .int .i64 xa, .int .i64 xb, .int .i64 xc]] w fun e w' => StepP B b w w' e true (L) T (M) bad deep := by
  have HC : Hid (∀ w, Calls Try.prog 41 #[.agg #[.int .i64 xk, .int .i64 xa, .int .i64 xb, .int .i64 xc]] w fun e w' => e = .returned (.int .i64 (if okx ⟨xk, xa, xb, xc⟩ then 0 else 100)) ∧ w.grownBy w' none) := Lib.hid (chk_x ⟨xk, xa, xb, xc⟩)
  rw [hok] at HC
  have GA := Lib.hid (g_alloc (g_refl w none) (.cells #[.int .i64 xk, .int .i64 xa, .int .i64 xb, .int .i64 xc] 31))
  have XB := Lib.hid (Blk.new w #[.int .i64 xk, .int .i64 xa, .int .i64 xb, .int .i64 xc] 31)
  have x0 := XB.out.cell 0 _ rfl
  have x1 := XB.out.cell 1 _ rfl
  have x2 := XB.out.cell 2 _ rfl
  have x3 := XB.out.cell 3 _ rfl
  have HW := Lib.hid (h.keep GA.out)
  have HTOP := Lib.hid (top_any _ _ _ _ _ _ _ _ HW.out)
  obtain ⟨tb, htb⟩ : ∃ t, (topP L).1 = t := ⟨_, rfl⟩
  obtain ⟨tw, htw⟩ : ∃ t, (topP L).2 = t := ⟨_, rfl⟩
  rw [htb, htw] at HTOP
  clear h hok
  go_enter Try.func36, Try.ntmps36
  go_wp2_with fail
  refine HTOP.out.mono ?_
  rintro e w1 ⟨rfl, g1⟩
  have XB := Lib.hid (XB.out.keepn g1)
  have G1 := Lib.hid (g_trans GA.out g1)
  have HW := Lib.hid (HW.out.keep g1)
  have YB := Lib.hid (Blk.new w1 #[.int .i64 tb, .int .i64 tw] 61)
  have ga := g_alloc (g_refl w1 none) (.cells #[.int .i64 tb, .int .i64 tw] 61)
  have XB2 := Lib.hid (XB.out.keepn ga)
  have HW := Lib.hid (HW.out.keep ga)
  have G2 := Lib.hid (g_trans G1.out ga)
  clear x0 x1 x2 x3
  have x0 := XB2.out.cell 0 _ rfl
  have x1 := XB2.out.cell 1 _ rfl
  have x2 := XB2.out.cell 2 _ rfl
  have x3 := XB2.out.cell 3 _ rfl
  clear g1 ga
  go_wp2_with fail
  refine (HC.out _).mono ?_
  rintro e w2 ⟨rfl, g2⟩
  have XB := Lib.hid (XB2.out.keepn g2)
  have YB := Lib.hid (YB.out.keepn g2)
  have G3 := Lib.hid (g_trans G2.out g2)
  have HW := Lib.hid (HW.out.keep g2)
  clear x0 x1 x2 x3 g2
  have x0 := XB.out.cell 0 _ rfl
  have y0 := YB.out.cell 0 _ rfl
  have y1 := YB.out.cell 1 _ rfl
  obtain ⟨k1, k2, k3, k4, k5⟩ := hk
  have k1 := beq_eq_false_iff_ne.2 k1
  have k2 := beq_eq_false_iff_ne.2 k2
  have k3 := beq_eq_false_iff_ne.2 k3
  have k4 := beq_eq_false_iff_ne.2 k4
  have k5 := beq_eq_false_iff_ne.2 k5
  go_wp2_with fail
  go_ret
  exact ⟨rfl, HW.out, tr_g G3.out _⟩
end Go.Proofs.Ytfobfcnbbafplaa
