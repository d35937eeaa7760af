/- The laws InstrForms, InstrAims, InstrNames. -/
import Derived.Test.YtcjeiafhcpgaoaaH
import Derived.Test.YtcjeiafhcpgaoaaJ
import Derived.Test.YtcjeiafhcpgaoaaShapes
namespace Go.Proofs.Ytcjeiafhcpgaoaa
open Go.RowKit
set_option linter.unusedVariables false

theorem checks (k A B C : Int) : ∃ x, (∀ w, Calls Try.prog 21 #[.agg #[.int .i64 k, .int .i64 A, .int .i64 B, .int .i64 C]] w fun e w' => e = .returned (.int .i64 x) ∧ w.grownBy w' none) ∧ (∀ w, Calls Try.prog 22 #[.agg #[.int .i64 k, .int .i64 A, .int .i64 B, .int .i64 C]] w fun e w' => e = .returned (.int .i64 x) ∧ w.grownBy w' none) := by
  rcases kind_cases k with ⟨n, rfl, h1, h2⟩ | h
  · exact ⟨_, check_ok n h1 h2 A B C, rcheck_ok n h1 h2 A B C⟩
  · exact ⟨_, check_bad k h A B C, rcheck_bad k h A B C⟩

set_option maxRecDepth 100000 in
set_option maxHeartbeats 3200000 in
theorem walk_InstrForms (a0_0 : Int) (a0_1 : Int) (a0_2 : Int) (a0_3 : Int) (w : World) (w0_0 : (Lit.int .i64 a0_0).wf = true) (w0_1 : (Lit.int .i64 a0_1).wf = true) (w0_2 : (Lit.int .i64 a0_2).wf = true) (w0_3 : (Lit.int .i64 a0_3).wf = true) :
    Calls Try.prog 7 #[.agg #[.int .i64 a0_0, .int .i64 a0_1, .int .i64 a0_2, .int .i64 a0_3]] w fun e w' => e = .returned (.bool true) ∧ Below w.heap.size w w' := by
  clear w0_0 w0_1 w0_2 w0_3
  obtain ⟨x, hc, hrc⟩ := checks a0_0 a0_1 a0_2 a0_3
  have HC := Lib.hid hc
  have HRC := Lib.hid hrc
  have g0 := g_alloc (g_refl w none) (.cells #[.int .i64 a0_0, .int .i64 a0_1, .int .i64 a0_2, .int .i64 a0_3] 24)
  have hb := Blk.new w #[.int .i64 a0_0, .int .i64 a0_1, .int .i64 a0_2, .int .i64 a0_3] 24
  have HB := Lib.hid hb
  have HL := Lib.hid (fun w => local_any a0_0 w)
  have HRL := Lib.hid (fun w => rlocal_any a0_0 w)
  have HN := Lib.hid (fun w => name_any a0_0 w)
  have HRN := Lib.hid (fun w => rname_any a0_0 w)
  have HO := Lib.hid (fun w => operands_any a0_0 w)
  have HRO := Lib.hid (fun w => roperands_any a0_0 w)
  generalize locB a0_0 = lb at *
  generalize nmI a0_0 = nm at *
  generalize opsI a0_0 = oi at *
  have e1 : (x == x) = true := by simp
  have e2 : (lb == lb) = true := by simp
  have e3 := tl_self nm
  have e4 : (oi == oi) = true := by simp
  clear hb hc hrc
  go_enter Try.func7, Try.ntmps7
  go_wp2_with fail
  have c0 := HB.out.cell 0 (.int .i64 a0_0) rfl
  have c1 := HB.out.cell 1 (.int .i64 a0_1) rfl
  have c2 := HB.out.cell 2 (.int .i64 a0_2) rfl
  have c3 := HB.out.cell 3 (.int .i64 a0_3) rfl
  generalize (w.alloc (.cells #[.int .i64 a0_0, .int .i64 a0_1, .int .i64 a0_2, .int .i64 a0_3] 24)) = W at *
  have l0 := fun X : GW W => X.cell c0
  have l1 := fun X : GW W => X.cell c1
  have l2 := fun X : GW W => X.cell c2
  have l3 := fun X : GW W => X.cell c3
  refine wp_region_gw (by kernel_rfl) (by kernel_rfl) ?_
  repeat (go_big_quiet_step (first | (go_at_call 21; exact quiet_g (HC.out _)) | (go_at_call 22; exact quiet_g (HRC.out _)) | (go_at_call 23; exact quiet_g (HL.out _)) | (go_at_call 24; exact quiet_g (HRL.out _)) | (go_at_call 16; exact quiet_g (HN.out _)) | (go_at_call 25; exact quiet_g (HRN.out _)) | (go_at_call 26; exact quiet_g (HO.out _)) | (go_at_call 27; exact quiet_g (HRO.out _)) | (go_at_call 13; exact quiet_g (awake_any _))))
  refine wpQuiet_nil ?_
  intro _ hw'
  obtain ⟨X9, hw''⟩ := hw'
  subst hw''
  have hg9 := X9.g
  clear l0 l1 l2 l3
  generalize X9.w = w9 at *
  go_wp2_with fail
  go_ret
  exact ⟨rfl, below_gn (Below.refl _ _) (g_trans g0 hg9) (Nat.le_refl _)⟩

set_option maxRecDepth 100000 in
set_option maxHeartbeats 3200000 in
theorem walk_InstrAims (a0_0 : Int) (a0_1 : Int) (a0_2 : Int) (a0_3 : Int) (a1 : Int) (w : World) (w0_0 : (Lit.int .i64 a0_0).wf = true) (w0_1 : (Lit.int .i64 a0_1).wf = true) (w0_2 : (Lit.int .i64 a0_2).wf = true) (w0_3 : (Lit.int .i64 a0_3).wf = true) (w1 : (Lit.int .i64 a1).wf = true) :
    Calls Try.prog 6 #[.agg #[.int .i64 a0_0, .int .i64 a0_1, .int .i64 a0_2, .int .i64 a0_3], .int .i64 a1] w fun e w' => e = .returned (.bool true) ∧ Below w.heap.size w w' := by
  clear w0_0 w0_1 w0_2 w0_3 w1
  have g0 := g_alloc (g_refl w none) (.cells #[.int .i64 a0_0, .int .i64 a0_1, .int .i64 a0_2, .int .i64 a0_3] 24)
  have hb := Blk.new w #[.int .i64 a0_0, .int .i64 a0_1, .int .i64 a0_2, .int .i64 a0_3] 24
  have HB := Lib.hid hb
  have htg : isJ a0_0 = true → tgt a0_0 (aimA a0_0 a0_1 a1) (aimB a0_0 a0_2 a1) = a1 := fun h => by
    have := of_decide_eq_true h
    unfold tgt aimA aimB
    rcases this with rfl | rfl <;> rfl
  have HT := Lib.hid (fun w => target_any a0_0 a0_1 a0_2 a0_3 w)
  have HRT := Lib.hid (fun w => rtarget_any a0_0 a0_1 a0_2 a0_3 w)
  have HA := Lib.hid (fun w => aim_any a0_0 a0_1 a0_2 a0_3 a1 w)
  have HRA := Lib.hid (fun w => raim_any a0_0 a0_1 a0_2 a0_3 a1 w)
  have HT2 := Lib.hid (fun w => target_any a0_0 (aimA a0_0 a0_1 a1) (aimB a0_0 a0_2 a1) a0_3 w)
  generalize tgt a0_0 (aimA a0_0 a0_1 a1) (aimB a0_0 a0_2 a1) = t2 at *
  generalize tgt a0_0 a0_1 a0_2 = t1 at *
  generalize aimA a0_0 a0_1 a1 = aA at *
  generalize aimB a0_0 a0_2 a1 = aB at *
  obtain ⟨j, hj⟩ : ∃ j, isJ a0_0 = j := ⟨_, rfl⟩
  rw [hj] at HT HRT HT2 htg
  have e1 : (t1 == t1) = true := by simp
  have e2 : (j == j) = true := by simp
  have e3 : (a0_0 == a0_0) = true := by simp
  have e4 : (aA == aA) = true := by simp
  have e5 : (aB == aB) = true := by simp
  have e6 : (a0_3 == a0_3) = true := by simp
  have e7 : (a1 == a1) = true := by simp
  have HTG := Lib.hid htg
  clear hb htg hj
  go_enter Try.func6, Try.ntmps6
  go_wp2_with fail
  refine (HT.out _).mono ?_
  rintro e w1 ⟨rfl, hg1⟩
  have b1 := HB.out.keepn hg1
  have c0 := b1.cell 0 (.int .i64 a0_0) rfl
  have c1 := b1.cell 1 (.int .i64 a0_1) rfl
  have c2 := b1.cell 2 (.int .i64 a0_2) rfl
  have c3 := b1.cell 3 (.int .i64 a0_3) rfl
  go_wp2_with fail
  refine (HRT.out _).mono ?_
  rintro e w2 ⟨rfl, hg2⟩
  have b2 := b1.keepn hg2
  have c0 := b2.cell 0 (.int .i64 a0_0) rfl
  have c1 := b2.cell 1 (.int .i64 a0_1) rfl
  have c2 := b2.cell 2 (.int .i64 a0_2) rfl
  have c3 := b2.cell 3 (.int .i64 a0_3) rfl
  go_wp2_with fail
  refine (HA.out _).mono ?_
  rintro e w3 ⟨rfl, hg3⟩
  have g3 := g_alloc (g_refl w3 none) (.cells #[.int .i64 a0_0, .int .i64 aA, .int .i64 aB, .int .i64 a0_3] 24)
  have xb := Blk.new w3 #[.int .i64 a0_0, .int .i64 aA, .int .i64 aB, .int .i64 a0_3] 24
  have b3 := (b2.keepn hg3).keepn g3
  go_wp2_with fail
  refine (HT2.out _).mono ?_
  rintro e w4 ⟨rfl, hg4⟩
  have b4 := b3.keepn hg4
  have x4 := xb.keepn hg4
  have c0 := b4.cell 0 (.int .i64 a0_0) rfl
  have c1 := b4.cell 1 (.int .i64 a0_1) rfl
  have c2 := b4.cell 2 (.int .i64 a0_2) rfl
  have c3 := b4.cell 3 (.int .i64 a0_3) rfl
  have d0 := x4.cell 0 (.int .i64 a0_0) rfl
  have d1 := x4.cell 1 (.int .i64 aA) rfl
  have d2 := x4.cell 2 (.int .i64 aB) rfl
  have d3 := x4.cell 3 (.int .i64 a0_3) rfl
  have gA := g_trans (g_trans (g_trans (g_trans (g_trans g0 hg1) hg2) hg3) g3) hg4
  have HX4 := Lib.hid x4
  clear x4 b3 b2 b1 xb hg1 hg2 hg3 hg4 g3 g0
  have HB4 := Lib.hid b4
  clear b4
  cases j with
  | true =>
    obtain rfl : t2 = a1 := HTG.out rfl
    go_wp2_with fail
    have l0 := fun X : GW w4 => X.cell c0
    have l1 := fun X : GW w4 => X.cell c1
    have l2 := fun X : GW w4 => X.cell c2
    have l3 := fun X : GW w4 => X.cell c3
    have m0 := fun X : GW w4 => X.cell d0
    have m1 := fun X : GW w4 => X.cell d1
    have m2 := fun X : GW w4 => X.cell d2
    have m3 := fun X : GW w4 => X.cell d3
    refine wp_region_gw (by kernel_rfl) (by kernel_rfl) ?_
    repeat (go_big_quiet_step (first | (go_at_call 20; exact quiet_g (HRA.out _)) | (go_at_call 13; exact quiet_g (awake_any _))))
    refine wpQuiet_nil ?_
    intro _ hw'
    obtain ⟨X9, hw''⟩ := hw'
    subst hw''
    have hg9 := X9.g
    clear l0 l1 l2 l3 m0 m1 m2 m3
    generalize X9.w = w9 at *
    go_wp2_with fail
    go_ret
    exact ⟨rfl, below_gn (Below.refl _ _) (g_trans gA hg9) (Nat.le_refl _)⟩
  | false =>
    go_wp2_with fail
    have l0 := fun X : GW w4 => X.cell c0
    have l1 := fun X : GW w4 => X.cell c1
    have l2 := fun X : GW w4 => X.cell c2
    have l3 := fun X : GW w4 => X.cell c3
    have m0 := fun X : GW w4 => X.cell d0
    have m1 := fun X : GW w4 => X.cell d1
    have m2 := fun X : GW w4 => X.cell d2
    have m3 := fun X : GW w4 => X.cell d3
    refine wp_region_gw (by kernel_rfl) (by kernel_rfl) ?_
    repeat (go_big_quiet_step (first | (go_at_call 20; exact quiet_g (HRA.out _)) | (go_at_call 13; exact quiet_g (awake_any _))))
    refine wpQuiet_nil ?_
    intro _ hw'
    obtain ⟨X9, hw''⟩ := hw'
    subst hw''
    have hg9 := X9.g
    clear l0 l1 l2 l3 m0 m1 m2 m3
    generalize X9.w = w9 at *
    go_wp2_with fail
    go_ret
    exact ⟨rfl, below_gn (Below.refl _ _) (g_trans gA hg9) (Nat.le_refl _)⟩
end Go.Proofs.Ytcjeiafhcpgaoaa
