/- The example at the laws' head. -/
import Derived.Test.YtmnldcnlnbpbbaaRRC
import Derived.Deep.RegionHeld3
namespace Go.Proofs.YtmnldcnlnbpbbaaRR
open Go.RowKit
set_option linter.unusedVariables false

set_option maxHeartbeats 1600000 in
theorem awake_any (w : World) : Calls Try.prog 10 #[] w fun e w' => e = .returned (.bool true) ∧ w.grownBy w' none := by
  have r1 : okR 1 3 0 := by decide
  have r2 : okR 2 2 0 := by decide
  have r0 : okR 0 0 0 := by decide
  have r7 : okR 0 7 0 := by decide
  have r8 : okR 0 8 0 := by decide
  have R1 := Lib.hid r1
  have R2 := Lib.hid r2
  have R0 := Lib.hid r0
  have R7 := Lib.hid r7
  have R8 := Lib.hid r8
  clear r1 r2 r0 r7 r8
  go_enter Try.func10, Try.ntmps10
  go_wp2_with fail
  refine (word_ok 1 3 0 _ R1.out).mono ?_
  rintro e w1 ⟨rfl, hg1⟩
  go_wp2_with fail
  refine (new_any 4 _ (by decide) (by decide)).mono ?_
  rintro e w2 ⟨b, g, rfl, hb, hgg, h2, hg2⟩
  have gA := g_trans hg1 hg2
  have s1 := hg1.size
  have H2 := Lib.hid h2
  have lg := h2.2.1.lt
  clear h2
  go_wp2_with fail
  refine (take_hit b g 4 _ _ _ H2.out 1 (by decide) (by decide) 0 1 3 0 R0.out rfl R1.out (by decide) (by decide)).mono ?_
  rintro e w3 ⟨rfl, h3, hg3⟩
  have H3 := Lib.hid h3
  have gB := g_in gA hg3 (by omega)
  clear h3
  go_wp2_with fail
  refine (take_c b g 4 _ _ _ H3.out 1 (by decide) (by decide) 0 2 2 0 R0.out R2.out (by decide) (by decide)).mono ?_
  rintro e w4 ⟨rfl, hg4⟩
  have H4 := Lib.hid (H3.out.keep hg4)
  go_wp2_with fail
  refine (let_hit b g 4 _ _ _ H4.out 1 (by decide) (by unfold okW; decide) (by decide) (by decide) (by decide) 7 R7.out (by decide)).mono ?_
  rintro e w5 ⟨rfl, h5, hg5⟩
  have gC := g_in (g_trans gB hg4) hg5 (by omega)
  have H5 := Lib.hid h5
  clear h5
  go_wp2_with fail
  refine (at_any b g 4 _ _ _ H5.out 1 (by decide) (by decide) (by unfold okW; decide) (by decide)).mono ?_
  rintro e w6 ⟨he, hg6⟩
  have he' : e = .returned (.agg #[.int .i64 0, .int .i64 7, .int .i64 1]) := he
  subst he'
  clear he
  have H6 := Lib.hid (H5.out.keep hg6)
  go_wp2_with fail
  refine (size_any b g 4 _ _ _ H6.out).mono ?_
  rintro e w7 ⟨rfl, hg7⟩
  have H7 := Lib.hid (H6.out.keep hg7)
  go_wp2_with fail
  refine (let_z b g 4 _ _ _ H7.out 1 (by decide) (by unfold okW; decide) (by decide) (by decide) (by decide) 8 R8.out (by decide)).mono ?_
  rintro e w8 ⟨rfl, hg8⟩
  have H8 := Lib.hid (H7.out.keep hg8)
  go_wp2_with fail
  refine (let_range b g 4 _ _ _ H8.out 4 (by decide) (by decide) (by decide) 8).mono ?_
  rintro e w9 ⟨rfl, hg9⟩
  go_wp2_with fail
  go_ret
  exact ⟨rfl, g_trans (g_trans (g_trans (g_trans gC hg6) hg7) hg8) hg9⟩
end Go.Proofs.YtmnldcnlnbpbbaaRR
