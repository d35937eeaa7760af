/- The law OrecWords. -/
import Derived.Test.YtmnldcnlnbpbbaaRRD
import Derived.Test.YtmnldcnlnbpbbaaRRShapes
namespace Go.Proofs.YtmnldcnlnbpbbaaRR
open Go.RowKit
set_option linter.unusedVariables false

theorem okW_word {K N I : Int} (h : okR K N I) : okW (4 * N + K) ∧ (4 * N + K) % 4 = K ∧ (4 * N + K) / 4 = N ∧ 0 ≤ 4 * N + K ∧ 4 * N + K < 4611686018427387904 := by
  unfold okR at h
  have e1 : (4 * N + K) % 4 = K := by omega
  have e2 : (4 * N + K) / 4 = N := by omega
  refine ⟨⟨by omega, ?_⟩, e1, e2, by omega, by omega⟩
  rw [e1, e2]
  unfold okR
  omega

set_option maxRecDepth 100000 in
set_option maxHeartbeats 3200000 in
theorem walk_OrecWords (a0_0 : Int) (a0_1 : Int) (a0_2 : Int) (a1 : Int) (w : World) (w0_0 : (Lit.int .i64 a0_0).wf = true) (w0_1 : (Lit.int .i64 a0_1).wf = true) (w0_2 : (Lit.int .i64 a0_2).wf = true) (w1 : (Lit.int .i64 a1).wf = true) :
    Calls Try.prog 3 #[.agg #[.int .i64 a0_0, .int .i64 a0_1, .int .i64 a0_2], .int .i64 a1] w fun e w' => e = .returned (.bool true) ∧ Below w.heap.size w w' := by
  have hx : -9223372036854775808 ≤ a1 ∧ a1 ≤ 9223372036854775807 := by simpa [Lit.wf, IntKind.min, IntKind.max, IntKind.signed, IntKind.bits] using w1
  obtain ⟨hx0, hx1⟩ := hx
  clear w0_0 w0_1 w0_2 w1
  have hlt : a1 < 9223372036854775808 := by omega
  have e1 : (a0_0 != a0_0) = false := by simp
  have e2 : (a0_1 != a0_1) = false := by simp
  have e3 : (a0_2 != a0_2) = false := by simp
  have e4 : (a1 != a1) = false := by simp
  have g0 := g_alloc (g_refl w none) (.cells #[.int .i64 a0_0, .int .i64 a0_1, .int .i64 a0_2] 24)
  have hb := Blk.new w #[.int .i64 a0_0, .int .i64 a0_1, .int .i64 a0_2] 24
  have HB := Lib.hid hb
  have fin : ∀ W, w.grownBy W none → Ending.returned (.bool true) = .returned (.bool true) ∧ Below w.heap.size w W := fun W g => ⟨rfl, below_gn (Below.refl _ _) g (Nat.le_refl _)⟩
  have FIN := Lib.hid fin
  clear hb fin
  by_cases ho : okR a0_0 a0_1 a0_2
  · have HO := Lib.hid ho
    clear ho
    by_cases hw : okW a1
    · have HW := Lib.hid hw
      clear hw
      obtain ⟨hw1, hw2, hw3, hw4, hw5⟩ := okW_word HO.out
      obtain ⟨z, hz⟩ : ∃ z, 4 * a0_1 + a0_0 = z := ⟨_, rfl⟩
      rw [hz] at hw1 hw2 hw3 hw4 hw5
      have HW1 := Lib.hid hw1
      have HW2 := Lib.hid hw2
      have HW3 := Lib.hid hw3
      have ez : (z != z) = false := by simp
      have HZ := Lib.hid hz
      clear hw1 hw2 hw3 hz
      obtain ⟨p0, hp0⟩ : ∃ p0, a1 % 4 = p0 := ⟨_, rfl⟩
      obtain ⟨p1, hp1⟩ : ∃ p1, a1 / 4 = p1 := ⟨_, rfl⟩
      have hpw := HW.out.2
      rw [hp0, hp1] at hpw
      have hpz : 4 * p1 + p0 = a1 := by omega
      have ep0 : (p0 != p0) = false := by simp
      have ep1 : (p1 != p1) = false := by simp
      have HP0 := Lib.hid hp0
      have HP1 := Lib.hid hp1
      have HPW := Lib.hid hpw
      have HPZ := Lib.hid hpz
      clear hp0 hp1 hpw hpz
      go_enter Try.func3, Try.ntmps3
      go_wp2_with fail
      refine (word_ok _ _ _ _ HO.out).mono ?_
      rw [HZ.out]
      rintro e w1 ⟨rfl, hg1⟩
      have b0 := (HB.out.keepn hg1).cell 0 (.int .i64 a0_0) rfl
      have b1 := (HB.out.keepn hg1).cell 1 (.int .i64 a0_1) rfl
      have b2 := (HB.out.keepn hg1).cell 2 (.int .i64 a0_2) rfl
      go_wp2_with fail
      refine (rword_ok _ _ _ _ HO.out).mono ?_
      rw [HZ.out]
      rintro e w2 ⟨rfl, hg2⟩
      go_wp2_with fail
      refine (read_ok _ _ HW.out hlt).mono ?_
      rw [HP0.out, HP1.out]
      rintro e w3 ⟨rfl, hg3⟩
      have g3 := g_alloc (g_refl w3 none) (.cells #[.int .i64 p0, .int .i64 p1, .int .i64 0] 24)
      have hp := Blk.new w3 #[.int .i64 p0, .int .i64 p1, .int .i64 0] 24
      go_wp2_with fail
      refine (rread_ok _ _ HW.out hlt).mono ?_
      rw [HP0.out, HP1.out]
      rintro e w4 ⟨rfl, hg4⟩
      have g4 := g_alloc (g_refl w4 none) (.cells #[.int .i64 p0, .int .i64 p1, .int .i64 0] 24)
      have hq := Blk.new w4 #[.int .i64 p0, .int .i64 p1, .int .i64 0] 24
      have gA := g_trans (g_trans (g_trans (g_trans (g_trans hg1 hg2) hg3) g3) hg4) g4
      have HBA := Lib.hid (HB.out.keepn gA)
      have HPA := Lib.hid ((hp.keepn hg4).keepn g4)
      have HQA := Lib.hid hq
      have lq := (g_trans (g_trans (g_trans g0 hg1) hg2) hg3).size
      have LQ : Hid (w.heap.size < w3.heap.size) := Lib.hid (by have := HB.out.lt; have h1 := hg1.size; have h2 := hg2.size; have h3 := hg3.size; simp at *; omega)
      clear hp hq b0 b1 b2 hg1 hg2 hg3 hg4 g3 lq
      have b0 := HBA.out.cell 0 (.int .i64 a0_0) rfl
      have b1 := HBA.out.cell 1 (.int .i64 a0_1) rfl
      have b2 := HBA.out.cell 2 (.int .i64 a0_2) rfl
      have q0 := HPA.out.cell 0 (.int .i64 p0) rfl
      have q1 := HPA.out.cell 1 (.int .i64 p1) rfl
      have q2 := HPA.out.cell 2 (.int .i64 0) rfl
      have k0 := HQA.out.cell 0 (.int .i64 p0) rfl
      have k1 := HQA.out.cell 1 (.int .i64 p1) rfl
      have k2 := HQA.out.cell 2 (.int .i64 0) rfl
      go_wp2_with fail
      refine (check_ok _ _ _ _ HO.out).mono ?_
      rintro e w5 ⟨rfl, hg5⟩
      have HB5 := Lib.hid (HBA.out.keepn hg5)
      have HP5 := Lib.hid (HPA.out.keepn hg5)
      have gB := g_trans (g_trans g0 gA) hg5
      have f2 := HB5.out.free 2
      have b2 := HB5.out.cell 2 (.int .i64 a0_2) rfl
      clear b0 b1 q0 q1 q2 k0 k1 k2 hg5 gA g4
      have gS := g_set (g_refl w5 (some w.heap.size)) (p := ⟨w.heap.size, 2, none⟩) (.inl rfl) (.int .i64 0)
      have HB6 := Lib.hid (HB5.out.set 2 (.int .i64 0))
      have s5 := gB.size
      have nP : w3.heap.size ≠ w.heap.size := by
        have := HB.out.lt
        have := LQ.out
        omega
      have HP6 := Lib.hid (HP5.out.keeps gS nP)
      have gC := g_in gB gS (Nat.le_refl _)
      clear gS gB
      go_wp2_with fail
      refine (read_ok _ _ HW1.out (by omega)).mono ?_
      rw [HW2.out, HW3.out]
      rintro e w6 ⟨rfl, hg6⟩
      have g7 := g_alloc (g_refl w6 none) (.cells #[.int .i64 a0_0, .int .i64 a0_1, .int .i64 0] 24)
      have hxb := Blk.new w6 #[.int .i64 a0_0, .int .i64 a0_1, .int .i64 0] 24
      have y0 := hxb.cell 0 (.int .i64 a0_0) rfl
      have y1 := hxb.cell 1 (.int .i64 a0_1) rfl
      have y2 := hxb.cell 2 (.int .i64 0) rfl
      have HB7 := Lib.hid ((HB6.out.keepn hg6).keepn g7)
      have b0 := HB7.out.cell 0 (.int .i64 a0_0) (by simp)
      have b1 := HB7.out.cell 1 (.int .i64 a0_1) (by simp)
      have b2 := HB7.out.cell 2 (.int .i64 0) (by simp)
      have gD := g_trans (g_trans gC hg6) g7
      have HP7 := Lib.hid ((HP6.out.keepn hg6).keepn g7)
      clear hxb hg6
      have q0 := HP7.out.cell 0 (.int .i64 p0) rfl
      have q1 := HP7.out.cell 1 (.int .i64 p1) rfl
      have q2 := HP7.out.cell 2 (.int .i64 0) rfl
      go_wp2_with fail
      refine (word_ok _ _ _ _ HPW.out).mono ?_
      rw [HPZ.out]
      rintro e w8 ⟨rfl, hg8⟩
      go_wp2_with fail
      refine (awake_any _).mono ?_
      rintro e w9 ⟨rfl, hg9⟩
      go_wp2_with fail
      go_ret
      exact ⟨rfl, (FIN.out _ (g_trans (g_trans gD hg8) hg9)).2⟩
    · have HW := Lib.hid hw
      clear hw
      obtain ⟨hw1, hw2, hw3, hw4, hw5⟩ := okW_word HO.out
      obtain ⟨z, hz⟩ : ∃ z, 4 * a0_1 + a0_0 = z := ⟨_, rfl⟩
      rw [hz] at hw1 hw2 hw3 hw4 hw5
      have HW1 := Lib.hid hw1
      have HW2 := Lib.hid hw2
      have HW3 := Lib.hid hw3
      have ez : (z != z) = false := by simp
      have HZ := Lib.hid hz
      clear hw1 hw2 hw3 hz
      go_enter Try.func3, Try.ntmps3
      go_wp2_with fail
      refine (word_ok _ _ _ _ HO.out).mono ?_
      rw [HZ.out]
      rintro e w1 ⟨rfl, hg1⟩
      have b0 := (HB.out.keepn hg1).cell 0 (.int .i64 a0_0) rfl
      have b1 := (HB.out.keepn hg1).cell 1 (.int .i64 a0_1) rfl
      have b2 := (HB.out.keepn hg1).cell 2 (.int .i64 a0_2) rfl
      go_wp2_with fail
      refine (rword_ok _ _ _ _ HO.out).mono ?_
      rw [HZ.out]
      rintro e w2 ⟨rfl, hg2⟩
      go_wp2_with fail
      refine (read_bad _ _ HW.out hlt).mono ?_
      rintro e w3 ⟨rfl, hg3⟩
      have g3 := g_alloc (g_refl w3 none) (.cells #[.int .i64 0, .int .i64 0, .int .i64 0] 24)
      have hp := Blk.new w3 #[.int .i64 0, .int .i64 0, .int .i64 0] 24
      go_wp2_with fail
      refine (rread_bad _ _ HW.out hlt).mono ?_
      rintro e w4 ⟨rfl, hg4⟩
      have g4 := g_alloc (g_refl w4 none) (.cells #[.int .i64 0, .int .i64 0, .int .i64 0] 24)
      have hq := Blk.new w4 #[.int .i64 0, .int .i64 0, .int .i64 0] 24
      have gA := g_trans (g_trans (g_trans (g_trans (g_trans hg1 hg2) hg3) g3) hg4) g4
      have HBA := Lib.hid (HB.out.keepn gA)
      have HPA := Lib.hid ((hp.keepn hg4).keepn g4)
      have HQA := Lib.hid hq
      have lq := (g_trans (g_trans (g_trans g0 hg1) hg2) hg3).size
      have LQ : Hid (w.heap.size < w3.heap.size) := Lib.hid (by have := HB.out.lt; have h1 := hg1.size; have h2 := hg2.size; have h3 := hg3.size; simp at *; omega)
      clear hp hq b0 b1 b2 hg1 hg2 hg3 hg4 g3 lq
      have b0 := HBA.out.cell 0 (.int .i64 a0_0) rfl
      have b1 := HBA.out.cell 1 (.int .i64 a0_1) rfl
      have b2 := HBA.out.cell 2 (.int .i64 a0_2) rfl
      have q0 := HPA.out.cell 0 (.int .i64 0) rfl
      have q1 := HPA.out.cell 1 (.int .i64 0) rfl
      have q2 := HPA.out.cell 2 (.int .i64 0) rfl
      have k0 := HQA.out.cell 0 (.int .i64 0) rfl
      have k1 := HQA.out.cell 1 (.int .i64 0) rfl
      have k2 := HQA.out.cell 2 (.int .i64 0) rfl
      go_wp2_with fail
      refine (check_ok _ _ _ _ HO.out).mono ?_
      rintro e w5 ⟨rfl, hg5⟩
      have HB5 := Lib.hid (HBA.out.keepn hg5)
      have HP5 := Lib.hid (HPA.out.keepn hg5)
      have gB := g_trans (g_trans g0 gA) hg5
      have f2 := HB5.out.free 2
      have b2 := HB5.out.cell 2 (.int .i64 a0_2) rfl
      clear b0 b1 q0 q1 q2 k0 k1 k2 hg5 gA g4
      have gS := g_set (g_refl w5 (some w.heap.size)) (p := ⟨w.heap.size, 2, none⟩) (.inl rfl) (.int .i64 0)
      have HB6 := Lib.hid (HB5.out.set 2 (.int .i64 0))
      have s5 := gB.size
      have gC := g_in gB gS (Nat.le_refl _)
      clear gS gB
      go_wp2_with fail
      refine (read_ok _ _ HW1.out (by omega)).mono ?_
      rw [HW2.out, HW3.out]
      rintro e w6 ⟨rfl, hg6⟩
      have g7 := g_alloc (g_refl w6 none) (.cells #[.int .i64 a0_0, .int .i64 a0_1, .int .i64 0] 24)
      have hxb := Blk.new w6 #[.int .i64 a0_0, .int .i64 a0_1, .int .i64 0] 24
      have y0 := hxb.cell 0 (.int .i64 a0_0) rfl
      have y1 := hxb.cell 1 (.int .i64 a0_1) rfl
      have y2 := hxb.cell 2 (.int .i64 0) rfl
      have HB7 := Lib.hid ((HB6.out.keepn hg6).keepn g7)
      have b0 := HB7.out.cell 0 (.int .i64 a0_0) (by simp)
      have b1 := HB7.out.cell 1 (.int .i64 a0_1) (by simp)
      have b2 := HB7.out.cell 2 (.int .i64 0) (by simp)
      have gD := g_trans (g_trans gC hg6) g7
      clear hxb hg6
      go_wp2_with fail
      refine (awake_any _).mono ?_
      rintro e w9 ⟨rfl, hg9⟩
      go_wp2_with fail
      go_ret
      exact ⟨rfl, (FIN.out _ (g_trans gD hg9)).2⟩
  · have HO := Lib.hid ho
    clear ho
    by_cases hw : okW a1
    · have HW := Lib.hid hw
      clear hw
      obtain ⟨p0, hp0⟩ : ∃ p0, a1 % 4 = p0 := ⟨_, rfl⟩
      obtain ⟨p1, hp1⟩ : ∃ p1, a1 / 4 = p1 := ⟨_, rfl⟩
      have hpw := HW.out.2
      rw [hp0, hp1] at hpw
      have hpz : 4 * p1 + p0 = a1 := by omega
      have ep0 : (p0 != p0) = false := by simp
      have ep1 : (p1 != p1) = false := by simp
      have HP0 := Lib.hid hp0
      have HP1 := Lib.hid hp1
      have HPW := Lib.hid hpw
      have HPZ := Lib.hid hpz
      clear hp0 hp1 hpw hpz
      go_enter Try.func3, Try.ntmps3
      go_wp2_with fail
      refine (word_bad _ _ _ _ HO.out).mono ?_
      rintro e w1 ⟨rfl, hg1⟩
      have b0 := (HB.out.keepn hg1).cell 0 (.int .i64 a0_0) rfl
      have b1 := (HB.out.keepn hg1).cell 1 (.int .i64 a0_1) rfl
      have b2 := (HB.out.keepn hg1).cell 2 (.int .i64 a0_2) rfl
      go_wp2_with fail
      refine (rword_bad _ _ _ _ HO.out).mono ?_
      rintro e w2 ⟨rfl, hg2⟩
      go_wp2_with fail
      refine (read_ok _ _ HW.out hlt).mono ?_
      rw [HP0.out, HP1.out]
      rintro e w3 ⟨rfl, hg3⟩
      have g3 := g_alloc (g_refl w3 none) (.cells #[.int .i64 p0, .int .i64 p1, .int .i64 0] 24)
      have hp := Blk.new w3 #[.int .i64 p0, .int .i64 p1, .int .i64 0] 24
      go_wp2_with fail
      refine (rread_ok _ _ HW.out hlt).mono ?_
      rw [HP0.out, HP1.out]
      rintro e w4 ⟨rfl, hg4⟩
      have g4 := g_alloc (g_refl w4 none) (.cells #[.int .i64 p0, .int .i64 p1, .int .i64 0] 24)
      have hq := Blk.new w4 #[.int .i64 p0, .int .i64 p1, .int .i64 0] 24
      have gA := g_trans (g_trans (g_trans (g_trans (g_trans hg1 hg2) hg3) g3) hg4) g4
      have HBA := Lib.hid (HB.out.keepn gA)
      have HPA := Lib.hid ((hp.keepn hg4).keepn g4)
      have HQA := Lib.hid hq
      have lq := (g_trans (g_trans (g_trans g0 hg1) hg2) hg3).size
      have LQ : Hid (w.heap.size < w3.heap.size) := Lib.hid (by have := HB.out.lt; have h1 := hg1.size; have h2 := hg2.size; have h3 := hg3.size; simp at *; omega)
      clear hp hq b0 b1 b2 hg1 hg2 hg3 hg4 g3 lq
      have b0 := HBA.out.cell 0 (.int .i64 a0_0) rfl
      have b1 := HBA.out.cell 1 (.int .i64 a0_1) rfl
      have b2 := HBA.out.cell 2 (.int .i64 a0_2) rfl
      have q0 := HPA.out.cell 0 (.int .i64 p0) rfl
      have q1 := HPA.out.cell 1 (.int .i64 p1) rfl
      have q2 := HPA.out.cell 2 (.int .i64 0) rfl
      have k0 := HQA.out.cell 0 (.int .i64 p0) rfl
      have k1 := HQA.out.cell 1 (.int .i64 p1) rfl
      have k2 := HQA.out.cell 2 (.int .i64 0) rfl
      go_wp2_with fail
      refine (check_bad _ _ _ _ HO.out).mono ?_
      rintro e w5 ⟨rfl, hg5⟩
      have HB5 := Lib.hid (HBA.out.keepn hg5)
      have HP5 := Lib.hid (HPA.out.keepn hg5)
      have gB := g_trans (g_trans g0 gA) hg5
      have f2 := HB5.out.free 2
      have b2 := HB5.out.cell 2 (.int .i64 a0_2) rfl
      clear b0 b1 q0 q1 q2 k0 k1 k2 hg5 gA g4
      have q0 := HP5.out.cell 0 (.int .i64 p0) rfl
      have q1 := HP5.out.cell 1 (.int .i64 p1) rfl
      have q2 := HP5.out.cell 2 (.int .i64 0) rfl
      go_wp2_with fail
      refine (word_ok _ _ _ _ HPW.out).mono ?_
      rw [HPZ.out]
      rintro e w8 ⟨rfl, hg8⟩
      go_wp2_with fail
      refine (awake_any _).mono ?_
      rintro e w9 ⟨rfl, hg9⟩
      go_wp2_with fail
      go_ret
      exact ⟨rfl, (FIN.out _ (g_trans (g_trans gB hg8) hg9)).2⟩
    · have HW := Lib.hid hw
      clear hw
      go_enter Try.func3, Try.ntmps3
      go_wp2_with fail
      refine (word_bad _ _ _ _ HO.out).mono ?_
      rintro e w1 ⟨rfl, hg1⟩
      have b0 := (HB.out.keepn hg1).cell 0 (.int .i64 a0_0) rfl
      have b1 := (HB.out.keepn hg1).cell 1 (.int .i64 a0_1) rfl
      have b2 := (HB.out.keepn hg1).cell 2 (.int .i64 a0_2) rfl
      go_wp2_with fail
      refine (rword_bad _ _ _ _ HO.out).mono ?_
      rintro e w2 ⟨rfl, hg2⟩
      go_wp2_with fail
      refine (read_bad _ _ HW.out hlt).mono ?_
      rintro e w3 ⟨rfl, hg3⟩
      have g3 := g_alloc (g_refl w3 none) (.cells #[.int .i64 0, .int .i64 0, .int .i64 0] 24)
      have hp := Blk.new w3 #[.int .i64 0, .int .i64 0, .int .i64 0] 24
      go_wp2_with fail
      refine (rread_bad _ _ HW.out hlt).mono ?_
      rintro e w4 ⟨rfl, hg4⟩
      have g4 := g_alloc (g_refl w4 none) (.cells #[.int .i64 0, .int .i64 0, .int .i64 0] 24)
      have hq := Blk.new w4 #[.int .i64 0, .int .i64 0, .int .i64 0] 24
      have gA := g_trans (g_trans (g_trans (g_trans (g_trans hg1 hg2) hg3) g3) hg4) g4
      have HBA := Lib.hid (HB.out.keepn gA)
      have HPA := Lib.hid ((hp.keepn hg4).keepn g4)
      have HQA := Lib.hid hq
      have lq := (g_trans (g_trans (g_trans g0 hg1) hg2) hg3).size
      have LQ : Hid (w.heap.size < w3.heap.size) := Lib.hid (by have := HB.out.lt; have h1 := hg1.size; have h2 := hg2.size; have h3 := hg3.size; simp at *; omega)
      clear hp hq b0 b1 b2 hg1 hg2 hg3 hg4 g3 lq
      have b0 := HBA.out.cell 0 (.int .i64 a0_0) rfl
      have b1 := HBA.out.cell 1 (.int .i64 a0_1) rfl
      have b2 := HBA.out.cell 2 (.int .i64 a0_2) rfl
      have q0 := HPA.out.cell 0 (.int .i64 0) rfl
      have q1 := HPA.out.cell 1 (.int .i64 0) rfl
      have q2 := HPA.out.cell 2 (.int .i64 0) rfl
      have k0 := HQA.out.cell 0 (.int .i64 0) rfl
      have k1 := HQA.out.cell 1 (.int .i64 0) rfl
      have k2 := HQA.out.cell 2 (.int .i64 0) rfl
      go_wp2_with fail
      refine (check_bad _ _ _ _ HO.out).mono ?_
      rintro e w5 ⟨rfl, hg5⟩
      have HB5 := Lib.hid (HBA.out.keepn hg5)
      have HP5 := Lib.hid (HPA.out.keepn hg5)
      have gB := g_trans (g_trans g0 gA) hg5
      have f2 := HB5.out.free 2
      have b2 := HB5.out.cell 2 (.int .i64 a0_2) rfl
      clear b0 b1 q0 q1 q2 k0 k1 k2 hg5 gA g4
      go_wp2_with fail
      refine (awake_any _).mono ?_
      rintro e w9 ⟨rfl, hg9⟩
      go_wp2_with fail
      go_ret
      exact ⟨rfl, (FIN.out _ (g_trans gB hg9)).2⟩
end Go.Proofs.YtmnldcnlnbpbbaaRR
