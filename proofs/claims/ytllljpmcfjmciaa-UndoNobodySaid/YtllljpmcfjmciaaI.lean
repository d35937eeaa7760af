/- A log that nobody made is none. -/
import Derived.Test.YtllljpmcfjmciaaH
namespace Go.Proofs.Ytllljpmcfjmciaa
open Go.RowKit
set_option linter.unusedVariables false
set_option linter.unusedSimpArgs false

set_option maxRecDepth 100000 in
set_option maxHeartbeats 12800000 in
theorem walk_UndoNobody (a0_0 : Int) (a0_1 : Int) (a0_2 : Int) (a0_3 : Int) (a0_4 : Int) (a0_5 : Bool) (a0_6 : Int) (w : World) (w0_0 : (Lit.int .i64 a0_0).wf = true) (w0_1 : (Lit.int .i64 a0_1).wf = true) (w0_2 : (Lit.int .i64 a0_2).wf = true) (w0_3 : (Lit.int .i64 a0_3).wf = true) (w0_4 : (Lit.int .i64 a0_4).wf = true) (w0_5 : (Lit.int .i64 a0_6).wf = true) :
    Calls Try.prog 5 #[.agg #[.int .i64 a0_0, .int .i64 a0_1, .int .i64 a0_2, .int .i64 a0_3, .int .i64 a0_4, .bool a0_5, .int .i64 a0_6]] w fun e w' => e = .returned (.bool true) ∧ Below w.heap.size w w' := by
  clear w0_0 w0_1 w0_2 w0_3 w0_4 w0_5
  have XO : Hid (Blk (((w.alloc (.cells #[.int .i64 a0_0, .int .i64 a0_1, .int .i64 a0_2, .int .i64 a0_3, .int .i64 a0_4, .bool a0_5, .int .i64 a0_6] 36)).alloc (.cells #[.int .i64 0, .slice none 0 0] 60)).alloc (.cells #[.pointer none, .pointer (some ⟨w.heap.size + 1, 0, none⟩)] 24)) w.heap.size #[.int .i64 a0_0, .int .i64 a0_1, .int .i64 a0_2, .int .i64 a0_3, .int .i64 a0_4, .bool a0_5, .int .i64 a0_6] 36) := Lib.hid (Blk.keepn (Blk.keepn (Blk.new w #[.int .i64 a0_0, .int .i64 a0_1, .int .i64 a0_2, .int .i64 a0_3, .int .i64 a0_4, .bool a0_5, .int .i64 a0_6] 36) (g_alloc (g_refl _ none) _)) (g_alloc (g_refl _ none) _))
  have XL : Hid (Blk (((w.alloc (.cells #[.int .i64 a0_0, .int .i64 a0_1, .int .i64 a0_2, .int .i64 a0_3, .int .i64 a0_4, .bool a0_5, .int .i64 a0_6] 36)).alloc (.cells #[.int .i64 0, .slice none 0 0] 60)).alloc (.cells #[.pointer none, .pointer (some ⟨w.heap.size + 1, 0, none⟩)] 24)) (w.heap.size + 1) #[.int .i64 0, .slice none 0 0] 60) := Lib.hid (by
    have h := Blk.keepn (Blk.new (w.alloc (.cells #[.int .i64 a0_0, .int .i64 a0_1, .int .i64 a0_2, .int .i64 a0_3, .int .i64 a0_4, .bool a0_5, .int .i64 a0_6] 36)) #[.int .i64 0, .slice none 0 0] 60) (g_alloc (g_refl _ none) (.cells #[.pointer none, .pointer (some ⟨w.heap.size + 1, 0, none⟩)] 24))
    rw [World.size_alloc] at h; exact h)
  have XR : Hid (Blk (((w.alloc (.cells #[.int .i64 a0_0, .int .i64 a0_1, .int .i64 a0_2, .int .i64 a0_3, .int .i64 a0_4, .bool a0_5, .int .i64 a0_6] 36)).alloc (.cells #[.int .i64 0, .slice none 0 0] 60)).alloc (.cells #[.pointer none, .pointer (some ⟨w.heap.size + 1, 0, none⟩)] 24)) (w.heap.size + 1 + 1) #[.pointer none, .pointer (some ⟨w.heap.size + 1, 0, none⟩)] 24) := Lib.hid (by
    have h := Blk.new ((w.alloc (.cells #[.int .i64 a0_0, .int .i64 a0_1, .int .i64 a0_2, .int .i64 a0_3, .int .i64 a0_4, .bool a0_5, .int .i64 a0_6] 36)).alloc (.cells #[.int .i64 0, .slice none 0 0] 60)) #[.pointer none, .pointer (some ⟨w.heap.size + 1, 0, none⟩)] 24
    simp only [World.size_alloc] at h; exact h)
  have G0 : Hid (w.grownBy (((w.alloc (.cells #[.int .i64 a0_0, .int .i64 a0_1, .int .i64 a0_2, .int .i64 a0_3, .int .i64 a0_4, .bool a0_5, .int .i64 a0_6] 36)).alloc (.cells #[.int .i64 0, .slice none 0 0] 60)).alloc (.cells #[.pointer none, .pointer (some ⟨w.heap.size + 1, 0, none⟩)] 24)) none) := Lib.hid (g_alloc (g_alloc (g_alloc (g_refl w none) _) _) _)
  go_enter Try.func5, Try.ntmps5
  go_wp2_with fail
  generalize (((w.alloc (.cells #[.int .i64 a0_0, .int .i64 a0_1, .int .i64 a0_2, .int .i64 a0_3, .int .i64 a0_4, .bool a0_5, .int .i64 a0_6] 36)).alloc (.cells #[.int .i64 0, .slice none 0 0] 60)).alloc (.cells #[.pointer none, .pointer (some ⟨w.heap.size + 1, 0, none⟩)] 24)) = W0 at *
  go_loopw [15] (fun i wr => ∃ j : Nat, i = .int .i64 j ∧ j ≤ 2 ∧ W0.grownBy wr none) (fun i _ => (2 - intOf i).toNat)
  case atStart => exact ⟨0, rfl, by omega, g_refl _ _⟩
  case round =>
    obtain ⟨j, rfl, hj, hg⟩ := hrel
    rcases (by omega : j = 0 ∨ j = 1 ∨ j = 2) with rfl | rfl | rfl
    · skip
      have NB : Hid (Nob (none) wr) := Lib.hid (.inl rfl)
      have HG := Lib.hid hg
      have e0 := hg.cell (XR.out.cell 0 _ rfl) (by simp)
      clear hg
      go_wp2_with fail
      refine (pop_nob NB.out).mono ?_
      rintro e w1 ⟨rfl, g1⟩
      have G1 := Lib.hid (g_trans HG.out g1)
      have ga := g_alloc (g_refl w1 none) (.cells #[.int .i64 0, .int .i64 0, .int .i64 0, .int .i64 0, .int .i64 0, .bool false, .int .i64 0] 36)
      have NB1 := Lib.hid ((NB.out.keep g1).keep ga)
      have Z1 := Lib.hid (Blk.new w1 #[.int .i64 0, .int .i64 0, .int .i64 0, .int .i64 0, .int .i64 0, .bool false, .int .i64 0] 36)
      have G2 := Lib.hid (g_trans G1.out ga)
      clear g1 ga e0
      have o0 := G2.out.cell (XO.out.cell 0 _ rfl) (by simp)
      have o1 := G2.out.cell (XO.out.cell 1 _ rfl) (by simp)
      have o2 := G2.out.cell (XO.out.cell 2 _ rfl) (by simp)
      go_wp2_with fail
      clear o0 o1 o2
      generalize w1.alloc (.cells #[.int .i64 0, .int .i64 0, .int .i64 0, .int .i64 0, .int .i64 0, .bool false, .int .i64 0] 36) = w2 at *
      generalize w1.heap.size = y1 at *
      refine (first_nob NB1.out _ _ _).mono ?_
      rintro e w3 ⟨rfl, g3⟩
      have ga := g_alloc (g_refl w3 none) (.cells #[.int .i64 0, .int .i64 0] 31)
      have G4 := Lib.hid (g_trans (g_trans G2.out g3) ga)
      have NB4 := Lib.hid ((NB1.out.keep g3).keep ga)
      have Z4 := Lib.hid ((Z1.out.keepn g3).keepn ga)
      have Y4 := Lib.hid (Blk.new w3 #[.int .i64 0, .int .i64 0] 31)
      clear g3 ga
      have o0 := G4.out.cell (XO.out.cell 0 _ rfl) (by simp)
      have o1 := G4.out.cell (XO.out.cell 1 _ rfl) (by simp)
      have o2 := G4.out.cell (XO.out.cell 2 _ rfl) (by simp)
      have o3 := G4.out.cell (XO.out.cell 3 _ rfl) (by simp)
      have o4 := G4.out.cell (XO.out.cell 4 _ rfl) (by simp)
      have o5 := G4.out.cell (XO.out.cell 5 _ rfl) (by simp)
      have o6 := G4.out.cell (XO.out.cell 6 _ rfl) (by simp)
      go_wp2_with fail
      clear o0 o1 o2 o3 o4 o5 o6
      generalize w3.alloc (.cells #[.int .i64 0, .int .i64 0] 31) = w4 at *
      generalize w3.heap.size = y3 at *
      refine (push_nob NB4.out _ _ _ _ _ _ _).mono ?_
      rintro e w5 ⟨rfl, g5⟩
      have G5 := Lib.hid (g_trans G4.out g5)
      have NB5 := Lib.hid (NB4.out.keep g5)
      have Z5 := Z4.out.keepn g5
      have Y5 := Y4.out.keepn g5
      have z0 := Z5.cell 0 _ rfl
      have z1 := Z5.cell 1 _ rfl
      have z2 := Z5.cell 2 _ rfl
      have z3 := Z5.cell 3 _ rfl
      have z4 := Z5.cell 4 _ rfl
      have z5 := Z5.cell 5 _ rfl
      have z6 := Z5.cell 6 _ rfl
      have y0 := Y5.cell 0 _ rfl
      have y1 := Y5.cell 1 _ rfl
      clear g5 Z5 Y5
      go_wp2_with fail
      refine (len_nob NB5.out).mono ?_
      rintro e wa ⟨rfl, rfl⟩
      go_wp2_with fail
      refine (all_nob NB5.out).mono ?_
      rintro e wa ⟨rfl, rfl⟩
      go_wp2_with fail
      refine (clear_nob NB5.out).mono ?_
      rintro e wa ⟨rfl, rfl⟩
      go_wp2_with fail
      refine (fork_nob NB5.out).mono ?_
      rintro e wa ⟨rfl, rfl⟩
      go_wp2_with fail
      go_roundw
      case rel => exact ⟨0 + 1, by go_num, by omega, G5.out⟩
      case measure => simp [intOf]
    · skip
      have NB : Hid (Nob (some ⟨w.heap.size + 1, 0, none⟩) wr) := Lib.hid (.inr ⟨_, rfl, XL.out.keepn hg⟩)
      have HG := Lib.hid hg
      have e0 := hg.cell (XR.out.cell 1 _ rfl) (by simp)
      clear hg
      go_wp2_with fail
      refine (pop_nob NB.out).mono ?_
      rintro e w1 ⟨rfl, g1⟩
      have G1 := Lib.hid (g_trans HG.out g1)
      have ga := g_alloc (g_refl w1 none) (.cells #[.int .i64 0, .int .i64 0, .int .i64 0, .int .i64 0, .int .i64 0, .bool false, .int .i64 0] 36)
      have NB1 := Lib.hid ((NB.out.keep g1).keep ga)
      have Z1 := Lib.hid (Blk.new w1 #[.int .i64 0, .int .i64 0, .int .i64 0, .int .i64 0, .int .i64 0, .bool false, .int .i64 0] 36)
      have G2 := Lib.hid (g_trans G1.out ga)
      clear g1 ga e0
      have o0 := G2.out.cell (XO.out.cell 0 _ rfl) (by simp)
      have o1 := G2.out.cell (XO.out.cell 1 _ rfl) (by simp)
      have o2 := G2.out.cell (XO.out.cell 2 _ rfl) (by simp)
      go_wp2_with fail
      clear o0 o1 o2
      generalize w1.alloc (.cells #[.int .i64 0, .int .i64 0, .int .i64 0, .int .i64 0, .int .i64 0, .bool false, .int .i64 0] 36) = w2 at *
      generalize w1.heap.size = y1 at *
      refine (first_nob NB1.out _ _ _).mono ?_
      rintro e w3 ⟨rfl, g3⟩
      have ga := g_alloc (g_refl w3 none) (.cells #[.int .i64 0, .int .i64 0] 31)
      have G4 := Lib.hid (g_trans (g_trans G2.out g3) ga)
      have NB4 := Lib.hid ((NB1.out.keep g3).keep ga)
      have Z4 := Lib.hid ((Z1.out.keepn g3).keepn ga)
      have Y4 := Lib.hid (Blk.new w3 #[.int .i64 0, .int .i64 0] 31)
      clear g3 ga
      have o0 := G4.out.cell (XO.out.cell 0 _ rfl) (by simp)
      have o1 := G4.out.cell (XO.out.cell 1 _ rfl) (by simp)
      have o2 := G4.out.cell (XO.out.cell 2 _ rfl) (by simp)
      have o3 := G4.out.cell (XO.out.cell 3 _ rfl) (by simp)
      have o4 := G4.out.cell (XO.out.cell 4 _ rfl) (by simp)
      have o5 := G4.out.cell (XO.out.cell 5 _ rfl) (by simp)
      have o6 := G4.out.cell (XO.out.cell 6 _ rfl) (by simp)
      go_wp2_with fail
      clear o0 o1 o2 o3 o4 o5 o6
      generalize w3.alloc (.cells #[.int .i64 0, .int .i64 0] 31) = w4 at *
      generalize w3.heap.size = y3 at *
      refine (push_nob NB4.out _ _ _ _ _ _ _).mono ?_
      rintro e w5 ⟨rfl, g5⟩
      have G5 := Lib.hid (g_trans G4.out g5)
      have NB5 := Lib.hid (NB4.out.keep g5)
      have Z5 := Z4.out.keepn g5
      have Y5 := Y4.out.keepn g5
      have z0 := Z5.cell 0 _ rfl
      have z1 := Z5.cell 1 _ rfl
      have z2 := Z5.cell 2 _ rfl
      have z3 := Z5.cell 3 _ rfl
      have z4 := Z5.cell 4 _ rfl
      have z5 := Z5.cell 5 _ rfl
      have z6 := Z5.cell 6 _ rfl
      have y0 := Y5.cell 0 _ rfl
      have y1 := Y5.cell 1 _ rfl
      clear g5 Z5 Y5
      go_wp2_with fail
      refine (len_nob NB5.out).mono ?_
      rintro e wa ⟨rfl, rfl⟩
      go_wp2_with fail
      refine (all_nob NB5.out).mono ?_
      rintro e wa ⟨rfl, rfl⟩
      go_wp2_with fail
      refine (clear_nob NB5.out).mono ?_
      rintro e wa ⟨rfl, rfl⟩
      go_wp2_with fail
      refine (fork_nob NB5.out).mono ?_
      rintro e wa ⟨rfl, rfl⟩
      go_wp2_with fail
      go_roundw
      case rel => exact ⟨1 + 1, by go_num, by omega, G5.out⟩
      case measure => simp [intOf]
    · have HG := Lib.hid hg
      clear hg
      go_wp2_with fail
      refine (awake_any _).mono ?_
      rintro e wz ⟨rfl, gz⟩
      go_wp2_with fail
      go_ret
      exact ⟨rfl, below_gn (Below.refl _ _) (g_trans (g_trans G0.out HG.out) gz) (Nat.le_refl _)⟩
end Go.Proofs.Ytllljpmcfjmciaa
