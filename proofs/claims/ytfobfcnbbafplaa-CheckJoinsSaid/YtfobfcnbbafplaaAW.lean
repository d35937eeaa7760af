/- Which programs may be: the page's example. -/
import Derived.Test.YtfobfcnbbafplaaO
namespace Go.Proofs.Ytfobfcnbbafplaa
open Go.RowKit
set_option linter.unusedVariables false
set_option linter.unusedSimpArgs false

theorem ex_chk : chkR (thrA ([15, 18, 16, 17].map op1)) = 0 := by decide
theorem ex_mat : matR (thrA ([15, 18, 16, 17].map op1)) = [2, -1, 3, 0] := by decide
theorem ex_bad : chkR (thrA ([15].map op1)) = 120 := by decide

set_option maxRecDepth 100000 in
set_option maxHeartbeats 3200000 in
theorem awake_any (w : World) : Calls Try.prog 11 #[] w fun e w' => e = .returned (.bool true) ∧ w.grownBy w' none := by
  have HE := Lib.hid (ops_any (some ⟨w.heap.size, 0, none⟩) 4 4 [15, 18, 16, 17] (w.alloc (.cells #[.int .i64 15, .int .i64 18, .int .i64 16, .int .i64 17] 29)) (nrow_new w [15, 18, 16, 17] 29) rfl (by decide) (by decide))
  have G0 := Lib.hid (g_alloc (g_refl w none) (.cells #[.int .i64 15, .int .i64 18, .int .i64 16, .int .i64 17] 29))
  go_enter Try.func11, Try.ntmps11
  go_wp2_with fail
  refine HE.out.mono ?_
  rintro e w1 ⟨v, rfl, how, g1⟩
  obtain ⟨ao, c, rfl, hr, hc1, hc2, -⟩ := irow_own how
  have G1 := Lib.hid (g_trans G0.out g1)
  have HM := Lib.hid (mates_any ao 4 c _ w1 hr rfl (by decide))
  clear how hr g1 HE
  go_wp2_with fail
  refine HM.out.mono ?_
  rintro e w2 ⟨v, rfl, how, g2⟩
  rw [ex_chk]
  rw [ex_mat] at how
  obtain ⟨bo, d, rfl, hr, hc3, hc4, -⟩ := nrow_own how
  have G2 := Lib.hid (g_trans G1.out g2)
  have HB := Lib.hid (hr.keep (g_alloc (g_refl w2 none) (.cells #[.int .i64 2, .int .i64 (-1), .int .i64 3, .int .i64 0] 3)))
  have HS := Lib.hid (same_any bo (some ⟨w2.heap.size, 0, none⟩) _ 4 d 4 [2, -1, 3, 0] [2, -1, 3, 0] (w2.alloc (.cells #[.int .i64 2, .int .i64 (-1), .int .i64 3, .int .i64 0] 3)) HB.out (nrow_new w2 [2, -1, 3, 0] 3) rfl rfl (by decide))
  have G3 := Lib.hid (g_trans G2.out (g_alloc (g_refl w2 none) (.cells #[.int .i64 2, .int .i64 (-1), .int .i64 3, .int .i64 0] 3)))
  clear how hr g2 HM
  go_wp2_with fail
  refine HS.out.mono ?_
  rintro e w3 ⟨rfl, g3⟩
  have G4 := Lib.hid (g_trans G3.out g3)
  have HE := Lib.hid (ops_any (some ⟨w3.heap.size, 0, none⟩) 1 1 [15] (w3.alloc (.cells #[.int .i64 15] 29)) (nrow_new w3 [15] 29) rfl (by decide) (by decide))
  have G5 := Lib.hid (g_trans G4.out (g_alloc (g_refl w3 none) (.cells #[.int .i64 15] 29)))
  clear g3 HS
  go_wp2_with fail
  refine HE.out.mono ?_
  rintro e w4 ⟨v, rfl, how, g1⟩
  obtain ⟨ao, c, rfl, hr, hc1, hc2, -⟩ := irow_own how
  have G6 := Lib.hid (g_trans G5.out g1)
  have HC := Lib.hid (check_any ao 1 c _ w4 hr rfl (by decide))
  rw [ex_bad] at HC
  clear how hr g1 HE
  go_wp2_with fail
  refine HC.out.mono ?_
  rintro e w5 ⟨rfl, g7⟩
  have G7 := Lib.hid (g_trans G6.out g7)
  clear g7
  go_wp2_with fail
  go_ret
  exact ⟨rfl, G7.out⟩
end Go.Proofs.Ytfobfcnbbafplaa
