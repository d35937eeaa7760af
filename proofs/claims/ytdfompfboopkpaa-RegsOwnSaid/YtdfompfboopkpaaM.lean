/- What an instruction does: the document's answer. -/
import Derived.Test.YtdfompfboopkpaaL
import Derived.Deep.RegionHeld3
namespace Go.Proofs.Ytdfompfboopkpaa
open Go.RowKit
set_option linter.unusedVariables false
set_option linter.unusedSimpArgs false

theorem build25 (w : World) : (Instr.build 25 #[]).run Try.prog w = .ok (.agg Z25) w := by kernel_rfl

set_option maxRecDepth 100000 in
set_option maxHeartbeats 3200000 in
theorem rdo_bad (F : Nat → Int) (pc k A B C rk rn : Int) (hc : ∀ w, Calls Try.prog 22 #[.agg #[.int .i64 k, .int .i64 A, .int .i64 B, .int .i64 C]] w fun e w' => e = .returned (.bool false) ∧ w.grownBy w' none) (w : World) : Calls Try.prog 8 #[.agg (rgv F), .int .i64 pc, .agg #[.int .i64 k, .int .i64 A, .int .i64 B, .int .i64 C], .agg #[.int .i64 rk, .int .i64 rn]] w fun e w' => e = .returned (.tuple #[.agg Z25, .int .i64 0, .int .i64 100]) ∧ w.grownBy w' none := by
  generalize rgv F = R at *
  have b0 : Hid (Blk ((((w.alloc (.cells R 25)).alloc (.cells #[.int .i64 k, .int .i64 A, .int .i64 B, .int .i64 C] 28)).alloc (.cells #[.int .i64 rk, .int .i64 rn] 24)).alloc (.cells #[.int .i64 0, .int .i64 0, .int .i64 0, .int .i64 0, .int .i64 0, .int .i64 0, .int .i64 0, .int .i64 0, .int .i64 0, .int .i64 0, .int .i64 0, .int .i64 0, .int .i64 0, .int .i64 0, .int .i64 0, .int .i64 0] 25)) (w.heap.size) R 25) := Lib.hid (by have h := (((Blk.new w R 25).keepn (g_alloc (g_refl (w.alloc (.cells R 25)) none) (.cells #[.int .i64 k, .int .i64 A, .int .i64 B, .int .i64 C] 28))).keepn (g_alloc (g_refl ((w.alloc (.cells R 25)).alloc (.cells #[.int .i64 k, .int .i64 A, .int .i64 B, .int .i64 C] 28)) none) (.cells #[.int .i64 rk, .int .i64 rn] 24))).keepn (g_alloc (g_refl (((w.alloc (.cells R 25)).alloc (.cells #[.int .i64 k, .int .i64 A, .int .i64 B, .int .i64 C] 28)).alloc (.cells #[.int .i64 rk, .int .i64 rn] 24)) none) (.cells #[.int .i64 0, .int .i64 0, .int .i64 0, .int .i64 0, .int .i64 0, .int .i64 0, .int .i64 0, .int .i64 0, .int .i64 0, .int .i64 0, .int .i64 0, .int .i64 0, .int .i64 0, .int .i64 0, .int .i64 0, .int .i64 0] 25)); simpa using h)
  have b1 : Hid (Blk ((((w.alloc (.cells R 25)).alloc (.cells #[.int .i64 k, .int .i64 A, .int .i64 B, .int .i64 C] 28)).alloc (.cells #[.int .i64 rk, .int .i64 rn] 24)).alloc (.cells #[.int .i64 0, .int .i64 0, .int .i64 0, .int .i64 0, .int .i64 0, .int .i64 0, .int .i64 0, .int .i64 0, .int .i64 0, .int .i64 0, .int .i64 0, .int .i64 0, .int .i64 0, .int .i64 0, .int .i64 0, .int .i64 0] 25)) (w.heap.size + 1) #[.int .i64 k, .int .i64 A, .int .i64 B, .int .i64 C] 28) := Lib.hid (by have h := ((Blk.new (w.alloc (.cells R 25)) #[.int .i64 k, .int .i64 A, .int .i64 B, .int .i64 C] 28).keepn (g_alloc (g_refl ((w.alloc (.cells R 25)).alloc (.cells #[.int .i64 k, .int .i64 A, .int .i64 B, .int .i64 C] 28)) none) (.cells #[.int .i64 rk, .int .i64 rn] 24))).keepn (g_alloc (g_refl (((w.alloc (.cells R 25)).alloc (.cells #[.int .i64 k, .int .i64 A, .int .i64 B, .int .i64 C] 28)).alloc (.cells #[.int .i64 rk, .int .i64 rn] 24)) none) (.cells #[.int .i64 0, .int .i64 0, .int .i64 0, .int .i64 0, .int .i64 0, .int .i64 0, .int .i64 0, .int .i64 0, .int .i64 0, .int .i64 0, .int .i64 0, .int .i64 0, .int .i64 0, .int .i64 0, .int .i64 0, .int .i64 0] 25)); simpa using h)
  have b2 : Hid (Blk ((((w.alloc (.cells R 25)).alloc (.cells #[.int .i64 k, .int .i64 A, .int .i64 B, .int .i64 C] 28)).alloc (.cells #[.int .i64 rk, .int .i64 rn] 24)).alloc (.cells #[.int .i64 0, .int .i64 0, .int .i64 0, .int .i64 0, .int .i64 0, .int .i64 0, .int .i64 0, .int .i64 0, .int .i64 0, .int .i64 0, .int .i64 0, .int .i64 0, .int .i64 0, .int .i64 0, .int .i64 0, .int .i64 0] 25)) (w.heap.size + 1 + 1) #[.int .i64 rk, .int .i64 rn] 24) := Lib.hid (by have h := (Blk.new ((w.alloc (.cells R 25)).alloc (.cells #[.int .i64 k, .int .i64 A, .int .i64 B, .int .i64 C] 28)) #[.int .i64 rk, .int .i64 rn] 24).keepn (g_alloc (g_refl (((w.alloc (.cells R 25)).alloc (.cells #[.int .i64 k, .int .i64 A, .int .i64 B, .int .i64 C] 28)).alloc (.cells #[.int .i64 rk, .int .i64 rn] 24)) none) (.cells #[.int .i64 0, .int .i64 0, .int .i64 0, .int .i64 0, .int .i64 0, .int .i64 0, .int .i64 0, .int .i64 0, .int .i64 0, .int .i64 0, .int .i64 0, .int .i64 0, .int .i64 0, .int .i64 0, .int .i64 0, .int .i64 0] 25)); simpa using h)
  have b3 : Hid (Blk ((((w.alloc (.cells R 25)).alloc (.cells #[.int .i64 k, .int .i64 A, .int .i64 B, .int .i64 C] 28)).alloc (.cells #[.int .i64 rk, .int .i64 rn] 24)).alloc (.cells #[.int .i64 0, .int .i64 0, .int .i64 0, .int .i64 0, .int .i64 0, .int .i64 0, .int .i64 0, .int .i64 0, .int .i64 0, .int .i64 0, .int .i64 0, .int .i64 0, .int .i64 0, .int .i64 0, .int .i64 0, .int .i64 0] 25)) (w.heap.size + 1 + 1 + 1) Z25 25) := Lib.hid (by have h := Blk.new (((w.alloc (.cells R 25)).alloc (.cells #[.int .i64 k, .int .i64 A, .int .i64 B, .int .i64 C] 28)).alloc (.cells #[.int .i64 rk, .int .i64 rn] 24)) #[.int .i64 0, .int .i64 0, .int .i64 0, .int .i64 0, .int .i64 0, .int .i64 0, .int .i64 0, .int .i64 0, .int .i64 0, .int .i64 0, .int .i64 0, .int .i64 0, .int .i64 0, .int .i64 0, .int .i64 0, .int .i64 0] 25; have h2 : Blk ((((w.alloc (.cells R 25)).alloc (.cells #[.int .i64 k, .int .i64 A, .int .i64 B, .int .i64 C] 28)).alloc (.cells #[.int .i64 rk, .int .i64 rn] 24)).alloc (.cells #[.int .i64 0, .int .i64 0, .int .i64 0, .int .i64 0, .int .i64 0, .int .i64 0, .int .i64 0, .int .i64 0, .int .i64 0, .int .i64 0, .int .i64 0, .int .i64 0, .int .i64 0, .int .i64 0, .int .i64 0, .int .i64 0] 25)) (w.heap.size + 1 + 1 + 1) #[.int .i64 0, .int .i64 0, .int .i64 0, .int .i64 0, .int .i64 0, .int .i64 0, .int .i64 0, .int .i64 0, .int .i64 0, .int .i64 0, .int .i64 0, .int .i64 0, .int .i64 0, .int .i64 0, .int .i64 0, .int .i64 0] 25 := (by simpa using h); exact h2)
  have bA := g_alloc (g_alloc (g_alloc (g_alloc (g_refl w none) (.cells R 25)) (.cells #[.int .i64 k, .int .i64 A, .int .i64 B, .int .i64 C] 28)) (.cells #[.int .i64 rk, .int .i64 rn] 24)) (.cells #[.int .i64 0, .int .i64 0, .int .i64 0, .int .i64 0, .int .i64 0, .int .i64 0, .int .i64 0, .int .i64 0, .int .i64 0, .int .i64 0, .int .i64 0, .int .i64 0, .int .i64 0, .int .i64 0, .int .i64 0, .int .i64 0] 25)
  go_enter Try.func8, Try.ntmps8
  go_wp2_with fail
  refine (hc _).mono ?_
  rintro e w1 ⟨rfl, g1⟩
  have d3 := Lib.hid (b3.out.keepn g1)
  go_wp2_with (first | (refine wpList_known rfl 25 _ rfl (.agg Z25) (build25 _) ?_) | (refine store25 rfl _ _ rfl (w.heap.size + 1 + 1 + 1) rfl Z25 rfl rg_z Z25 rfl d3.out ?_; intro w9 hb9 hg9))
  exact bodyPost_ret (resR3 Try.results8 _ _ _ Z25 (.int .i64 0) (.int .i64 100) rg_z rfl rfl rfl hb9) rfl ⟨rfl, g_in (g_trans bA g1) hg9 (by omega)⟩

set_option maxRecDepth 100000 in
set_option maxHeartbeats 3200000 in
theorem rdo_far (F : Nat → Int) (pc k A B C rk rn : Int) (hc : ∀ w, Calls Try.prog 22 #[.agg #[.int .i64 k, .int .i64 A, .int .i64 B, .int .i64 C]] w fun e w' => e = .returned (.bool true) ∧ w.grownBy w' none) (hl : ∀ w, Calls Try.prog 23 #[.int .i64 k] w fun e w' => e = .returned (.bool false) ∧ w.grownBy w' none) (w : World) : Calls Try.prog 8 #[.agg (rgv F), .int .i64 pc, .agg #[.int .i64 k, .int .i64 A, .int .i64 B, .int .i64 C], .agg #[.int .i64 rk, .int .i64 rn]] w fun e w' => e = .returned (.tuple #[.agg Z25, .int .i64 0, .int .i64 100]) ∧ w.grownBy w' none := by
  generalize rgv F = R at *
  have b0 : Hid (Blk ((((w.alloc (.cells R 25)).alloc (.cells #[.int .i64 k, .int .i64 A, .int .i64 B, .int .i64 C] 28)).alloc (.cells #[.int .i64 rk, .int .i64 rn] 24)).alloc (.cells #[.int .i64 0, .int .i64 0, .int .i64 0, .int .i64 0, .int .i64 0, .int .i64 0, .int .i64 0, .int .i64 0, .int .i64 0, .int .i64 0, .int .i64 0, .int .i64 0, .int .i64 0, .int .i64 0, .int .i64 0, .int .i64 0] 25)) (w.heap.size) R 25) := Lib.hid (by have h := (((Blk.new w R 25).keepn (g_alloc (g_refl (w.alloc (.cells R 25)) none) (.cells #[.int .i64 k, .int .i64 A, .int .i64 B, .int .i64 C] 28))).keepn (g_alloc (g_refl ((w.alloc (.cells R 25)).alloc (.cells #[.int .i64 k, .int .i64 A, .int .i64 B, .int .i64 C] 28)) none) (.cells #[.int .i64 rk, .int .i64 rn] 24))).keepn (g_alloc (g_refl (((w.alloc (.cells R 25)).alloc (.cells #[.int .i64 k, .int .i64 A, .int .i64 B, .int .i64 C] 28)).alloc (.cells #[.int .i64 rk, .int .i64 rn] 24)) none) (.cells #[.int .i64 0, .int .i64 0, .int .i64 0, .int .i64 0, .int .i64 0, .int .i64 0, .int .i64 0, .int .i64 0, .int .i64 0, .int .i64 0, .int .i64 0, .int .i64 0, .int .i64 0, .int .i64 0, .int .i64 0, .int .i64 0] 25)); simpa using h)
  have b1 : Hid (Blk ((((w.alloc (.cells R 25)).alloc (.cells #[.int .i64 k, .int .i64 A, .int .i64 B, .int .i64 C] 28)).alloc (.cells #[.int .i64 rk, .int .i64 rn] 24)).alloc (.cells #[.int .i64 0, .int .i64 0, .int .i64 0, .int .i64 0, .int .i64 0, .int .i64 0, .int .i64 0, .int .i64 0, .int .i64 0, .int .i64 0, .int .i64 0, .int .i64 0, .int .i64 0, .int .i64 0, .int .i64 0, .int .i64 0] 25)) (w.heap.size + 1) #[.int .i64 k, .int .i64 A, .int .i64 B, .int .i64 C] 28) := Lib.hid (by have h := ((Blk.new (w.alloc (.cells R 25)) #[.int .i64 k, .int .i64 A, .int .i64 B, .int .i64 C] 28).keepn (g_alloc (g_refl ((w.alloc (.cells R 25)).alloc (.cells #[.int .i64 k, .int .i64 A, .int .i64 B, .int .i64 C] 28)) none) (.cells #[.int .i64 rk, .int .i64 rn] 24))).keepn (g_alloc (g_refl (((w.alloc (.cells R 25)).alloc (.cells #[.int .i64 k, .int .i64 A, .int .i64 B, .int .i64 C] 28)).alloc (.cells #[.int .i64 rk, .int .i64 rn] 24)) none) (.cells #[.int .i64 0, .int .i64 0, .int .i64 0, .int .i64 0, .int .i64 0, .int .i64 0, .int .i64 0, .int .i64 0, .int .i64 0, .int .i64 0, .int .i64 0, .int .i64 0, .int .i64 0, .int .i64 0, .int .i64 0, .int .i64 0] 25)); simpa using h)
  have b2 : Hid (Blk ((((w.alloc (.cells R 25)).alloc (.cells #[.int .i64 k, .int .i64 A, .int .i64 B, .int .i64 C] 28)).alloc (.cells #[.int .i64 rk, .int .i64 rn] 24)).alloc (.cells #[.int .i64 0, .int .i64 0, .int .i64 0, .int .i64 0, .int .i64 0, .int .i64 0, .int .i64 0, .int .i64 0, .int .i64 0, .int .i64 0, .int .i64 0, .int .i64 0, .int .i64 0, .int .i64 0, .int .i64 0, .int .i64 0] 25)) (w.heap.size + 1 + 1) #[.int .i64 rk, .int .i64 rn] 24) := Lib.hid (by have h := (Blk.new ((w.alloc (.cells R 25)).alloc (.cells #[.int .i64 k, .int .i64 A, .int .i64 B, .int .i64 C] 28)) #[.int .i64 rk, .int .i64 rn] 24).keepn (g_alloc (g_refl (((w.alloc (.cells R 25)).alloc (.cells #[.int .i64 k, .int .i64 A, .int .i64 B, .int .i64 C] 28)).alloc (.cells #[.int .i64 rk, .int .i64 rn] 24)) none) (.cells #[.int .i64 0, .int .i64 0, .int .i64 0, .int .i64 0, .int .i64 0, .int .i64 0, .int .i64 0, .int .i64 0, .int .i64 0, .int .i64 0, .int .i64 0, .int .i64 0, .int .i64 0, .int .i64 0, .int .i64 0, .int .i64 0] 25)); simpa using h)
  have b3 : Hid (Blk ((((w.alloc (.cells R 25)).alloc (.cells #[.int .i64 k, .int .i64 A, .int .i64 B, .int .i64 C] 28)).alloc (.cells #[.int .i64 rk, .int .i64 rn] 24)).alloc (.cells #[.int .i64 0, .int .i64 0, .int .i64 0, .int .i64 0, .int .i64 0, .int .i64 0, .int .i64 0, .int .i64 0, .int .i64 0, .int .i64 0, .int .i64 0, .int .i64 0, .int .i64 0, .int .i64 0, .int .i64 0, .int .i64 0] 25)) (w.heap.size + 1 + 1 + 1) Z25 25) := Lib.hid (by have h := Blk.new (((w.alloc (.cells R 25)).alloc (.cells #[.int .i64 k, .int .i64 A, .int .i64 B, .int .i64 C] 28)).alloc (.cells #[.int .i64 rk, .int .i64 rn] 24)) #[.int .i64 0, .int .i64 0, .int .i64 0, .int .i64 0, .int .i64 0, .int .i64 0, .int .i64 0, .int .i64 0, .int .i64 0, .int .i64 0, .int .i64 0, .int .i64 0, .int .i64 0, .int .i64 0, .int .i64 0, .int .i64 0] 25; have h2 : Blk ((((w.alloc (.cells R 25)).alloc (.cells #[.int .i64 k, .int .i64 A, .int .i64 B, .int .i64 C] 28)).alloc (.cells #[.int .i64 rk, .int .i64 rn] 24)).alloc (.cells #[.int .i64 0, .int .i64 0, .int .i64 0, .int .i64 0, .int .i64 0, .int .i64 0, .int .i64 0, .int .i64 0, .int .i64 0, .int .i64 0, .int .i64 0, .int .i64 0, .int .i64 0, .int .i64 0, .int .i64 0, .int .i64 0] 25)) (w.heap.size + 1 + 1 + 1) #[.int .i64 0, .int .i64 0, .int .i64 0, .int .i64 0, .int .i64 0, .int .i64 0, .int .i64 0, .int .i64 0, .int .i64 0, .int .i64 0, .int .i64 0, .int .i64 0, .int .i64 0, .int .i64 0, .int .i64 0, .int .i64 0] 25 := (by simpa using h); exact h2)
  have bA := g_alloc (g_alloc (g_alloc (g_alloc (g_refl w none) (.cells R 25)) (.cells #[.int .i64 k, .int .i64 A, .int .i64 B, .int .i64 C] 28)) (.cells #[.int .i64 rk, .int .i64 rn] 24)) (.cells #[.int .i64 0, .int .i64 0, .int .i64 0, .int .i64 0, .int .i64 0, .int .i64 0, .int .i64 0, .int .i64 0, .int .i64 0, .int .i64 0, .int .i64 0, .int .i64 0, .int .i64 0, .int .i64 0, .int .i64 0, .int .i64 0] 25)
  go_enter Try.func8, Try.ntmps8
  go_wp2_with fail
  refine (hc _).mono ?_
  rintro e w1 ⟨rfl, g1⟩
  have c1 := Lib.hid (b1.out.keepn g1)
  have c1_0 := c1.out.cell 0 (.int .i64 k) rfl
  go_wp2_with fail
  refine (hl _).mono ?_
  rintro e w2 ⟨rfl, g2⟩
  have g12 := g_trans g1 g2
  have G12 := Lib.hid g12
  have d0 := Lib.hid (b0.out.keepn g12)
  have d1 := Lib.hid (b1.out.keepn g12)
  have d2 := Lib.hid (b2.out.keepn g12)
  have d3 := Lib.hid (b3.out.keepn g12)
  clear g1 g2 g12 c1_0
  go_wp2_with (first | (refine wpList_known rfl 25 _ rfl (.agg Z25) (build25 _) ?_) | (refine store25 rfl _ _ rfl (w.heap.size + 1 + 1 + 1) rfl Z25 rfl rg_z Z25 rfl d3.out ?_; intro w9 hb9 hg9))
  exact bodyPost_ret (resR3 Try.results8 _ _ _ Z25 (.int .i64 0) (.int .i64 100) rg_z rfl rfl rfl hb9) rfl ⟨rfl, g_in (g_trans bA G12.out) hg9 (by omega)⟩

set_option maxRecDepth 100000 in
set_option maxHeartbeats 3200000 in
theorem rdo_place (F : Nat → Int) (pc k A B C rk rn : Int) (hp : pc < 0 ∨ 511 < pc) (hc : ∀ w, Calls Try.prog 22 #[.agg #[.int .i64 k, .int .i64 A, .int .i64 B, .int .i64 C]] w fun e w' => e = .returned (.bool true) ∧ w.grownBy w' none) (hl : ∀ w, Calls Try.prog 23 #[.int .i64 k] w fun e w' => e = .returned (.bool true) ∧ w.grownBy w' none) (w : World) : Calls Try.prog 8 #[.agg (rgv F), .int .i64 pc, .agg #[.int .i64 k, .int .i64 A, .int .i64 B, .int .i64 C], .agg #[.int .i64 rk, .int .i64 rn]] w fun e w' => e = .returned (.tuple #[.agg Z25, .int .i64 0, .int .i64 5]) ∧ w.grownBy w' none := by
  generalize rgv F = R at *
  have b0 : Hid (Blk ((((w.alloc (.cells R 25)).alloc (.cells #[.int .i64 k, .int .i64 A, .int .i64 B, .int .i64 C] 28)).alloc (.cells #[.int .i64 rk, .int .i64 rn] 24)).alloc (.cells #[.int .i64 0, .int .i64 0, .int .i64 0, .int .i64 0, .int .i64 0, .int .i64 0, .int .i64 0, .int .i64 0, .int .i64 0, .int .i64 0, .int .i64 0, .int .i64 0, .int .i64 0, .int .i64 0, .int .i64 0, .int .i64 0] 25)) (w.heap.size) R 25) := Lib.hid (by have h := (((Blk.new w R 25).keepn (g_alloc (g_refl (w.alloc (.cells R 25)) none) (.cells #[.int .i64 k, .int .i64 A, .int .i64 B, .int .i64 C] 28))).keepn (g_alloc (g_refl ((w.alloc (.cells R 25)).alloc (.cells #[.int .i64 k, .int .i64 A, .int .i64 B, .int .i64 C] 28)) none) (.cells #[.int .i64 rk, .int .i64 rn] 24))).keepn (g_alloc (g_refl (((w.alloc (.cells R 25)).alloc (.cells #[.int .i64 k, .int .i64 A, .int .i64 B, .int .i64 C] 28)).alloc (.cells #[.int .i64 rk, .int .i64 rn] 24)) none) (.cells #[.int .i64 0, .int .i64 0, .int .i64 0, .int .i64 0, .int .i64 0, .int .i64 0, .int .i64 0, .int .i64 0, .int .i64 0, .int .i64 0, .int .i64 0, .int .i64 0, .int .i64 0, .int .i64 0, .int .i64 0, .int .i64 0] 25)); simpa using h)
  have b1 : Hid (Blk ((((w.alloc (.cells R 25)).alloc (.cells #[.int .i64 k, .int .i64 A, .int .i64 B, .int .i64 C] 28)).alloc (.cells #[.int .i64 rk, .int .i64 rn] 24)).alloc (.cells #[.int .i64 0, .int .i64 0, .int .i64 0, .int .i64 0, .int .i64 0, .int .i64 0, .int .i64 0, .int .i64 0, .int .i64 0, .int .i64 0, .int .i64 0, .int .i64 0, .int .i64 0, .int .i64 0, .int .i64 0, .int .i64 0] 25)) (w.heap.size + 1) #[.int .i64 k, .int .i64 A, .int .i64 B, .int .i64 C] 28) := Lib.hid (by have h := ((Blk.new (w.alloc (.cells R 25)) #[.int .i64 k, .int .i64 A, .int .i64 B, .int .i64 C] 28).keepn (g_alloc (g_refl ((w.alloc (.cells R 25)).alloc (.cells #[.int .i64 k, .int .i64 A, .int .i64 B, .int .i64 C] 28)) none) (.cells #[.int .i64 rk, .int .i64 rn] 24))).keepn (g_alloc (g_refl (((w.alloc (.cells R 25)).alloc (.cells #[.int .i64 k, .int .i64 A, .int .i64 B, .int .i64 C] 28)).alloc (.cells #[.int .i64 rk, .int .i64 rn] 24)) none) (.cells #[.int .i64 0, .int .i64 0, .int .i64 0, .int .i64 0, .int .i64 0, .int .i64 0, .int .i64 0, .int .i64 0, .int .i64 0, .int .i64 0, .int .i64 0, .int .i64 0, .int .i64 0, .int .i64 0, .int .i64 0, .int .i64 0] 25)); simpa using h)
  have b2 : Hid (Blk ((((w.alloc (.cells R 25)).alloc (.cells #[.int .i64 k, .int .i64 A, .int .i64 B, .int .i64 C] 28)).alloc (.cells #[.int .i64 rk, .int .i64 rn] 24)).alloc (.cells #[.int .i64 0, .int .i64 0, .int .i64 0, .int .i64 0, .int .i64 0, .int .i64 0, .int .i64 0, .int .i64 0, .int .i64 0, .int .i64 0, .int .i64 0, .int .i64 0, .int .i64 0, .int .i64 0, .int .i64 0, .int .i64 0] 25)) (w.heap.size + 1 + 1) #[.int .i64 rk, .int .i64 rn] 24) := Lib.hid (by have h := (Blk.new ((w.alloc (.cells R 25)).alloc (.cells #[.int .i64 k, .int .i64 A, .int .i64 B, .int .i64 C] 28)) #[.int .i64 rk, .int .i64 rn] 24).keepn (g_alloc (g_refl (((w.alloc (.cells R 25)).alloc (.cells #[.int .i64 k, .int .i64 A, .int .i64 B, .int .i64 C] 28)).alloc (.cells #[.int .i64 rk, .int .i64 rn] 24)) none) (.cells #[.int .i64 0, .int .i64 0, .int .i64 0, .int .i64 0, .int .i64 0, .int .i64 0, .int .i64 0, .int .i64 0, .int .i64 0, .int .i64 0, .int .i64 0, .int .i64 0, .int .i64 0, .int .i64 0, .int .i64 0, .int .i64 0] 25)); simpa using h)
  have b3 : Hid (Blk ((((w.alloc (.cells R 25)).alloc (.cells #[.int .i64 k, .int .i64 A, .int .i64 B, .int .i64 C] 28)).alloc (.cells #[.int .i64 rk, .int .i64 rn] 24)).alloc (.cells #[.int .i64 0, .int .i64 0, .int .i64 0, .int .i64 0, .int .i64 0, .int .i64 0, .int .i64 0, .int .i64 0, .int .i64 0, .int .i64 0, .int .i64 0, .int .i64 0, .int .i64 0, .int .i64 0, .int .i64 0, .int .i64 0] 25)) (w.heap.size + 1 + 1 + 1) Z25 25) := Lib.hid (by have h := Blk.new (((w.alloc (.cells R 25)).alloc (.cells #[.int .i64 k, .int .i64 A, .int .i64 B, .int .i64 C] 28)).alloc (.cells #[.int .i64 rk, .int .i64 rn] 24)) #[.int .i64 0, .int .i64 0, .int .i64 0, .int .i64 0, .int .i64 0, .int .i64 0, .int .i64 0, .int .i64 0, .int .i64 0, .int .i64 0, .int .i64 0, .int .i64 0, .int .i64 0, .int .i64 0, .int .i64 0, .int .i64 0] 25; have h2 : Blk ((((w.alloc (.cells R 25)).alloc (.cells #[.int .i64 k, .int .i64 A, .int .i64 B, .int .i64 C] 28)).alloc (.cells #[.int .i64 rk, .int .i64 rn] 24)).alloc (.cells #[.int .i64 0, .int .i64 0, .int .i64 0, .int .i64 0, .int .i64 0, .int .i64 0, .int .i64 0, .int .i64 0, .int .i64 0, .int .i64 0, .int .i64 0, .int .i64 0, .int .i64 0, .int .i64 0, .int .i64 0, .int .i64 0] 25)) (w.heap.size + 1 + 1 + 1) #[.int .i64 0, .int .i64 0, .int .i64 0, .int .i64 0, .int .i64 0, .int .i64 0, .int .i64 0, .int .i64 0, .int .i64 0, .int .i64 0, .int .i64 0, .int .i64 0, .int .i64 0, .int .i64 0, .int .i64 0, .int .i64 0] 25 := (by simpa using h); exact h2)
  have bA := g_alloc (g_alloc (g_alloc (g_alloc (g_refl w none) (.cells R 25)) (.cells #[.int .i64 k, .int .i64 A, .int .i64 B, .int .i64 C] 28)) (.cells #[.int .i64 rk, .int .i64 rn] 24)) (.cells #[.int .i64 0, .int .i64 0, .int .i64 0, .int .i64 0, .int .i64 0, .int .i64 0, .int .i64 0, .int .i64 0, .int .i64 0, .int .i64 0, .int .i64 0, .int .i64 0, .int .i64 0, .int .i64 0, .int .i64 0, .int .i64 0] 25)
  rcases hp with hp | hp
  all_goals
    go_enter Try.func8, Try.ntmps8
    go_wp2_with fail
    refine (hc _).mono ?_
    rintro e w1 ⟨rfl, g1⟩
    have c1 := Lib.hid (b1.out.keepn g1)
    have c1_0 := c1.out.cell 0 (.int .i64 k) rfl
    go_wp2_with fail
    refine (hl _).mono ?_
    rintro e w2 ⟨rfl, g2⟩
    have g12 := g_trans g1 g2
    have G12 := Lib.hid g12
    have d0 := Lib.hid (b0.out.keepn g12)
    have d1 := Lib.hid (b1.out.keepn g12)
    have d2 := Lib.hid (b2.out.keepn g12)
    have d3 := Lib.hid (b3.out.keepn g12)
    clear g1 g2 g12 c1_0
    go_wp2_with (first | (refine wpList_known rfl 25 _ rfl (.agg Z25) (build25 _) ?_) | (refine store25 rfl _ _ rfl (w.heap.size + 1 + 1 + 1) rfl Z25 rfl rg_z Z25 rfl d3.out ?_; intro w9 hb9 hg9))
    exact bodyPost_ret (resR3 Try.results8 _ _ _ Z25 (.int .i64 0) (.int .i64 5) rg_z rfl rfl rfl hb9) rfl ⟨rfl, g_in (g_trans bA G12.out) hg9 (by omega)⟩

set_option maxRecDepth 100000 in
set_option maxHeartbeats 3200000 in
theorem rdo_emit (F : Nat → Int) (pc A B C rk rn : Int) (hp1 : 0 ≤ pc) (hp2 : pc < 512) (hc : ∀ w, Calls Try.prog 22 #[.agg #[.int .i64 19, .int .i64 A, .int .i64 B, .int .i64 C]] w fun e w' => e = .returned (.bool true) ∧ w.grownBy w' none) (hl : ∀ w, Calls Try.prog 23 #[.int .i64 19] w fun e w' => e = .returned (.bool true) ∧ w.grownBy w' none) (w : World) : Calls Try.prog 8 #[.agg (rgv F), .int .i64 pc, .agg #[.int .i64 19, .int .i64 A, .int .i64 B, .int .i64 C], .agg #[.int .i64 rk, .int .i64 rn]] w fun e w' => e = .returned (.tuple #[.agg (rgv F), .int .i64 (pc + 1), .int .i64 0]) ∧ w.grownBy w' none := by
  have hR := rg_rgv F
  generalize rgv F = R at *
  have hw : wrap64 (pc + 1) = pc + 1 := by unfold wrap64; omega
  have b0 : Hid (Blk ((((w.alloc (.cells R 25)).alloc (.cells #[.int .i64 19, .int .i64 A, .int .i64 B, .int .i64 C] 28)).alloc (.cells #[.int .i64 rk, .int .i64 rn] 24)).alloc (.cells #[.int .i64 0, .int .i64 0, .int .i64 0, .int .i64 0, .int .i64 0, .int .i64 0, .int .i64 0, .int .i64 0, .int .i64 0, .int .i64 0, .int .i64 0, .int .i64 0, .int .i64 0, .int .i64 0, .int .i64 0, .int .i64 0] 25)) (w.heap.size) R 25) := Lib.hid (by have h := (((Blk.new w R 25).keepn (g_alloc (g_refl (w.alloc (.cells R 25)) none) (.cells #[.int .i64 19, .int .i64 A, .int .i64 B, .int .i64 C] 28))).keepn (g_alloc (g_refl ((w.alloc (.cells R 25)).alloc (.cells #[.int .i64 19, .int .i64 A, .int .i64 B, .int .i64 C] 28)) none) (.cells #[.int .i64 rk, .int .i64 rn] 24))).keepn (g_alloc (g_refl (((w.alloc (.cells R 25)).alloc (.cells #[.int .i64 19, .int .i64 A, .int .i64 B, .int .i64 C] 28)).alloc (.cells #[.int .i64 rk, .int .i64 rn] 24)) none) (.cells #[.int .i64 0, .int .i64 0, .int .i64 0, .int .i64 0, .int .i64 0, .int .i64 0, .int .i64 0, .int .i64 0, .int .i64 0, .int .i64 0, .int .i64 0, .int .i64 0, .int .i64 0, .int .i64 0, .int .i64 0, .int .i64 0] 25)); simpa using h)
  have b1 : Hid (Blk ((((w.alloc (.cells R 25)).alloc (.cells #[.int .i64 19, .int .i64 A, .int .i64 B, .int .i64 C] 28)).alloc (.cells #[.int .i64 rk, .int .i64 rn] 24)).alloc (.cells #[.int .i64 0, .int .i64 0, .int .i64 0, .int .i64 0, .int .i64 0, .int .i64 0, .int .i64 0, .int .i64 0, .int .i64 0, .int .i64 0, .int .i64 0, .int .i64 0, .int .i64 0, .int .i64 0, .int .i64 0, .int .i64 0] 25)) (w.heap.size + 1) #[.int .i64 19, .int .i64 A, .int .i64 B, .int .i64 C] 28) := Lib.hid (by have h := ((Blk.new (w.alloc (.cells R 25)) #[.int .i64 19, .int .i64 A, .int .i64 B, .int .i64 C] 28).keepn (g_alloc (g_refl ((w.alloc (.cells R 25)).alloc (.cells #[.int .i64 19, .int .i64 A, .int .i64 B, .int .i64 C] 28)) none) (.cells #[.int .i64 rk, .int .i64 rn] 24))).keepn (g_alloc (g_refl (((w.alloc (.cells R 25)).alloc (.cells #[.int .i64 19, .int .i64 A, .int .i64 B, .int .i64 C] 28)).alloc (.cells #[.int .i64 rk, .int .i64 rn] 24)) none) (.cells #[.int .i64 0, .int .i64 0, .int .i64 0, .int .i64 0, .int .i64 0, .int .i64 0, .int .i64 0, .int .i64 0, .int .i64 0, .int .i64 0, .int .i64 0, .int .i64 0, .int .i64 0, .int .i64 0, .int .i64 0, .int .i64 0] 25)); simpa using h)
  have b2 : Hid (Blk ((((w.alloc (.cells R 25)).alloc (.cells #[.int .i64 19, .int .i64 A, .int .i64 B, .int .i64 C] 28)).alloc (.cells #[.int .i64 rk, .int .i64 rn] 24)).alloc (.cells #[.int .i64 0, .int .i64 0, .int .i64 0, .int .i64 0, .int .i64 0, .int .i64 0, .int .i64 0, .int .i64 0, .int .i64 0, .int .i64 0, .int .i64 0, .int .i64 0, .int .i64 0, .int .i64 0, .int .i64 0, .int .i64 0] 25)) (w.heap.size + 1 + 1) #[.int .i64 rk, .int .i64 rn] 24) := Lib.hid (by have h := (Blk.new ((w.alloc (.cells R 25)).alloc (.cells #[.int .i64 19, .int .i64 A, .int .i64 B, .int .i64 C] 28)) #[.int .i64 rk, .int .i64 rn] 24).keepn (g_alloc (g_refl (((w.alloc (.cells R 25)).alloc (.cells #[.int .i64 19, .int .i64 A, .int .i64 B, .int .i64 C] 28)).alloc (.cells #[.int .i64 rk, .int .i64 rn] 24)) none) (.cells #[.int .i64 0, .int .i64 0, .int .i64 0, .int .i64 0, .int .i64 0, .int .i64 0, .int .i64 0, .int .i64 0, .int .i64 0, .int .i64 0, .int .i64 0, .int .i64 0, .int .i64 0, .int .i64 0, .int .i64 0, .int .i64 0] 25)); simpa using h)
  have b3 : Hid (Blk ((((w.alloc (.cells R 25)).alloc (.cells #[.int .i64 19, .int .i64 A, .int .i64 B, .int .i64 C] 28)).alloc (.cells #[.int .i64 rk, .int .i64 rn] 24)).alloc (.cells #[.int .i64 0, .int .i64 0, .int .i64 0, .int .i64 0, .int .i64 0, .int .i64 0, .int .i64 0, .int .i64 0, .int .i64 0, .int .i64 0, .int .i64 0, .int .i64 0, .int .i64 0, .int .i64 0, .int .i64 0, .int .i64 0] 25)) (w.heap.size + 1 + 1 + 1) Z25 25) := Lib.hid (by have h := Blk.new (((w.alloc (.cells R 25)).alloc (.cells #[.int .i64 19, .int .i64 A, .int .i64 B, .int .i64 C] 28)).alloc (.cells #[.int .i64 rk, .int .i64 rn] 24)) #[.int .i64 0, .int .i64 0, .int .i64 0, .int .i64 0, .int .i64 0, .int .i64 0, .int .i64 0, .int .i64 0, .int .i64 0, .int .i64 0, .int .i64 0, .int .i64 0, .int .i64 0, .int .i64 0, .int .i64 0, .int .i64 0] 25; have h2 : Blk ((((w.alloc (.cells R 25)).alloc (.cells #[.int .i64 19, .int .i64 A, .int .i64 B, .int .i64 C] 28)).alloc (.cells #[.int .i64 rk, .int .i64 rn] 24)).alloc (.cells #[.int .i64 0, .int .i64 0, .int .i64 0, .int .i64 0, .int .i64 0, .int .i64 0, .int .i64 0, .int .i64 0, .int .i64 0, .int .i64 0, .int .i64 0, .int .i64 0, .int .i64 0, .int .i64 0, .int .i64 0, .int .i64 0] 25)) (w.heap.size + 1 + 1 + 1) #[.int .i64 0, .int .i64 0, .int .i64 0, .int .i64 0, .int .i64 0, .int .i64 0, .int .i64 0, .int .i64 0, .int .i64 0, .int .i64 0, .int .i64 0, .int .i64 0, .int .i64 0, .int .i64 0, .int .i64 0, .int .i64 0] 25 := (by simpa using h); exact h2)
  have bA := g_alloc (g_alloc (g_alloc (g_alloc (g_refl w none) (.cells R 25)) (.cells #[.int .i64 19, .int .i64 A, .int .i64 B, .int .i64 C] 28)) (.cells #[.int .i64 rk, .int .i64 rn] 24)) (.cells #[.int .i64 0, .int .i64 0, .int .i64 0, .int .i64 0, .int .i64 0, .int .i64 0, .int .i64 0, .int .i64 0, .int .i64 0, .int .i64 0, .int .i64 0, .int .i64 0, .int .i64 0, .int .i64 0, .int .i64 0, .int .i64 0] 25)
  go_enter Try.func8, Try.ntmps8
  go_wp2_with fail
  refine (hc _).mono ?_
  rintro e w1 ⟨rfl, g1⟩
  have c1 := Lib.hid (b1.out.keepn g1)
  have c1_0 := c1.out.cell 0 (.int .i64 19) rfl
  go_wp2_with fail
  refine (hl _).mono ?_
  rintro e w2 ⟨rfl, g2⟩
  have g12 := g_trans g1 g2
  have G12 := Lib.hid g12
  have d0 := Lib.hid (b0.out.keepn g12)
  have d1 := Lib.hid (b1.out.keepn g12)
  have d2 := Lib.hid (b2.out.keepn g12)
  have d3 := Lib.hid (b3.out.keepn g12)
  clear g1 g2 g12 c1_0
  have d1_0 := d1.out.cell 0 (.int .i64 19) rfl
  have d1_1 := d1.out.cell 1 (.int .i64 A) rfl
  have d1_2 := d1.out.cell 2 (.int .i64 B) rfl
  have d1_3 := d1.out.cell 3 (.int .i64 C) rfl
  go_wp2_with (first | (refine load25 rfl _ rfl (w.heap.size) rfl R hR d0.out ?_) | (refine store25 rfl _ _ rfl (w.heap.size + 1 + 1 + 1) rfl R rfl hR Z25 rfl d3.out ?_; intro w9 hb9 hg9))
  exact bodyPost_ret (resR3 Try.results8 _ _ _ R (.int .i64 (pc + 1)) (.int .i64 0) hR rfl rfl rfl hb9) rfl ⟨rfl, g_in (g_trans bA G12.out) hg9 (by omega)⟩

set_option maxRecDepth 100000 in
set_option maxHeartbeats 3200000 in
theorem rdo_jump (F : Nat → Int) (pc A B C rk rn : Int) (hp1 : 0 ≤ pc) (hp2 : pc < 512) (hc : ∀ w, Calls Try.prog 22 #[.agg #[.int .i64 8, .int .i64 A, .int .i64 B, .int .i64 C]] w fun e w' => e = .returned (.bool true) ∧ w.grownBy w' none) (hl : ∀ w, Calls Try.prog 23 #[.int .i64 8] w fun e w' => e = .returned (.bool true) ∧ w.grownBy w' none) (w : World) : Calls Try.prog 8 #[.agg (rgv F), .int .i64 pc, .agg #[.int .i64 8, .int .i64 A, .int .i64 B, .int .i64 C], .agg #[.int .i64 rk, .int .i64 rn]] w fun e w' => e = .returned (.tuple #[.agg (rgv F), .int .i64 A, .int .i64 0]) ∧ w.grownBy w' none := by
  have hR := rg_rgv F
  generalize rgv F = R at *
  obtain ⟨cs, rfl⟩ : ∃ cs : List Value, R = cs.toArray := ⟨R.toList, by simp⟩
  have hw : wrap64 (pc + 1) = pc + 1 := by unfold wrap64; omega
  have b0 : Hid (Blk ((((w.alloc (.cells cs.toArray 25)).alloc (.cells #[.int .i64 8, .int .i64 A, .int .i64 B, .int .i64 C] 28)).alloc (.cells #[.int .i64 rk, .int .i64 rn] 24)).alloc (.cells #[.int .i64 0, .int .i64 0, .int .i64 0, .int .i64 0, .int .i64 0, .int .i64 0, .int .i64 0, .int .i64 0, .int .i64 0, .int .i64 0, .int .i64 0, .int .i64 0, .int .i64 0, .int .i64 0, .int .i64 0, .int .i64 0] 25)) (w.heap.size) cs.toArray 25) := Lib.hid (by have h := (((Blk.new w cs.toArray 25).keepn (g_alloc (g_refl (w.alloc (.cells cs.toArray 25)) none) (.cells #[.int .i64 8, .int .i64 A, .int .i64 B, .int .i64 C] 28))).keepn (g_alloc (g_refl ((w.alloc (.cells cs.toArray 25)).alloc (.cells #[.int .i64 8, .int .i64 A, .int .i64 B, .int .i64 C] 28)) none) (.cells #[.int .i64 rk, .int .i64 rn] 24))).keepn (g_alloc (g_refl (((w.alloc (.cells cs.toArray 25)).alloc (.cells #[.int .i64 8, .int .i64 A, .int .i64 B, .int .i64 C] 28)).alloc (.cells #[.int .i64 rk, .int .i64 rn] 24)) none) (.cells #[.int .i64 0, .int .i64 0, .int .i64 0, .int .i64 0, .int .i64 0, .int .i64 0, .int .i64 0, .int .i64 0, .int .i64 0, .int .i64 0, .int .i64 0, .int .i64 0, .int .i64 0, .int .i64 0, .int .i64 0, .int .i64 0] 25)); simpa using h)
  have b1 : Hid (Blk ((((w.alloc (.cells cs.toArray 25)).alloc (.cells #[.int .i64 8, .int .i64 A, .int .i64 B, .int .i64 C] 28)).alloc (.cells #[.int .i64 rk, .int .i64 rn] 24)).alloc (.cells #[.int .i64 0, .int .i64 0, .int .i64 0, .int .i64 0, .int .i64 0, .int .i64 0, .int .i64 0, .int .i64 0, .int .i64 0, .int .i64 0, .int .i64 0, .int .i64 0, .int .i64 0, .int .i64 0, .int .i64 0, .int .i64 0] 25)) (w.heap.size + 1) #[.int .i64 8, .int .i64 A, .int .i64 B, .int .i64 C] 28) := Lib.hid (by have h := ((Blk.new (w.alloc (.cells cs.toArray 25)) #[.int .i64 8, .int .i64 A, .int .i64 B, .int .i64 C] 28).keepn (g_alloc (g_refl ((w.alloc (.cells cs.toArray 25)).alloc (.cells #[.int .i64 8, .int .i64 A, .int .i64 B, .int .i64 C] 28)) none) (.cells #[.int .i64 rk, .int .i64 rn] 24))).keepn (g_alloc (g_refl (((w.alloc (.cells cs.toArray 25)).alloc (.cells #[.int .i64 8, .int .i64 A, .int .i64 B, .int .i64 C] 28)).alloc (.cells #[.int .i64 rk, .int .i64 rn] 24)) none) (.cells #[.int .i64 0, .int .i64 0, .int .i64 0, .int .i64 0, .int .i64 0, .int .i64 0, .int .i64 0, .int .i64 0, .int .i64 0, .int .i64 0, .int .i64 0, .int .i64 0, .int .i64 0, .int .i64 0, .int .i64 0, .int .i64 0] 25)); simpa using h)
  have b2 : Hid (Blk ((((w.alloc (.cells cs.toArray 25)).alloc (.cells #[.int .i64 8, .int .i64 A, .int .i64 B, .int .i64 C] 28)).alloc (.cells #[.int .i64 rk, .int .i64 rn] 24)).alloc (.cells #[.int .i64 0, .int .i64 0, .int .i64 0, .int .i64 0, .int .i64 0, .int .i64 0, .int .i64 0, .int .i64 0, .int .i64 0, .int .i64 0, .int .i64 0, .int .i64 0, .int .i64 0, .int .i64 0, .int .i64 0, .int .i64 0] 25)) (w.heap.size + 1 + 1) #[.int .i64 rk, .int .i64 rn] 24) := Lib.hid (by have h := (Blk.new ((w.alloc (.cells cs.toArray 25)).alloc (.cells #[.int .i64 8, .int .i64 A, .int .i64 B, .int .i64 C] 28)) #[.int .i64 rk, .int .i64 rn] 24).keepn (g_alloc (g_refl (((w.alloc (.cells cs.toArray 25)).alloc (.cells #[.int .i64 8, .int .i64 A, .int .i64 B, .int .i64 C] 28)).alloc (.cells #[.int .i64 rk, .int .i64 rn] 24)) none) (.cells #[.int .i64 0, .int .i64 0, .int .i64 0, .int .i64 0, .int .i64 0, .int .i64 0, .int .i64 0, .int .i64 0, .int .i64 0, .int .i64 0, .int .i64 0, .int .i64 0, .int .i64 0, .int .i64 0, .int .i64 0, .int .i64 0] 25)); simpa using h)
  have b3 : Hid (Blk ((((w.alloc (.cells cs.toArray 25)).alloc (.cells #[.int .i64 8, .int .i64 A, .int .i64 B, .int .i64 C] 28)).alloc (.cells #[.int .i64 rk, .int .i64 rn] 24)).alloc (.cells #[.int .i64 0, .int .i64 0, .int .i64 0, .int .i64 0, .int .i64 0, .int .i64 0, .int .i64 0, .int .i64 0, .int .i64 0, .int .i64 0, .int .i64 0, .int .i64 0, .int .i64 0, .int .i64 0, .int .i64 0, .int .i64 0] 25)) (w.heap.size + 1 + 1 + 1) Z25 25) := Lib.hid (by have h := Blk.new (((w.alloc (.cells cs.toArray 25)).alloc (.cells #[.int .i64 8, .int .i64 A, .int .i64 B, .int .i64 C] 28)).alloc (.cells #[.int .i64 rk, .int .i64 rn] 24)) #[.int .i64 0, .int .i64 0, .int .i64 0, .int .i64 0, .int .i64 0, .int .i64 0, .int .i64 0, .int .i64 0, .int .i64 0, .int .i64 0, .int .i64 0, .int .i64 0, .int .i64 0, .int .i64 0, .int .i64 0, .int .i64 0] 25; have h2 : Blk ((((w.alloc (.cells cs.toArray 25)).alloc (.cells #[.int .i64 8, .int .i64 A, .int .i64 B, .int .i64 C] 28)).alloc (.cells #[.int .i64 rk, .int .i64 rn] 24)).alloc (.cells #[.int .i64 0, .int .i64 0, .int .i64 0, .int .i64 0, .int .i64 0, .int .i64 0, .int .i64 0, .int .i64 0, .int .i64 0, .int .i64 0, .int .i64 0, .int .i64 0, .int .i64 0, .int .i64 0, .int .i64 0, .int .i64 0] 25)) (w.heap.size + 1 + 1 + 1) #[.int .i64 0, .int .i64 0, .int .i64 0, .int .i64 0, .int .i64 0, .int .i64 0, .int .i64 0, .int .i64 0, .int .i64 0, .int .i64 0, .int .i64 0, .int .i64 0, .int .i64 0, .int .i64 0, .int .i64 0, .int .i64 0] 25 := (by simpa using h); exact h2)
  have bA := g_alloc (g_alloc (g_alloc (g_alloc (g_refl w none) (.cells cs.toArray 25)) (.cells #[.int .i64 8, .int .i64 A, .int .i64 B, .int .i64 C] 28)) (.cells #[.int .i64 rk, .int .i64 rn] 24)) (.cells #[.int .i64 0, .int .i64 0, .int .i64 0, .int .i64 0, .int .i64 0, .int .i64 0, .int .i64 0, .int .i64 0, .int .i64 0, .int .i64 0, .int .i64 0, .int .i64 0, .int .i64 0, .int .i64 0, .int .i64 0, .int .i64 0] 25)
  go_enter Try.func8, Try.ntmps8
  go_wp2_with fail
  refine (hc _).mono ?_
  rintro e w1 ⟨rfl, g1⟩
  have c1 := Lib.hid (b1.out.keepn g1)
  have c1_0 := c1.out.cell 0 (.int .i64 8) rfl
  go_wp2_with fail
  refine (hl _).mono ?_
  rintro e w2 ⟨rfl, g2⟩
  have g12 := g_trans g1 g2
  have G12 := Lib.hid g12
  have d0 := Lib.hid (b0.out.keepn g12)
  have d1 := Lib.hid (b1.out.keepn g12)
  have d2 := Lib.hid (b2.out.keepn g12)
  have d3 := Lib.hid (b3.out.keepn g12)
  clear g1 g2 g12 c1_0
  have d1_0 := d1.out.cell 0 (.int .i64 8) rfl
  have d1_1 := d1.out.cell 1 (.int .i64 A) rfl
  have d1_2 := d1.out.cell 2 (.int .i64 B) rfl
  have d1_3 := d1.out.cell 3 (.int .i64 C) rfl
  go_wp2_with fail
  have hu := Try.underlying25
  have hlen : cs.length = 16 := by simpa using hR.1
  have hinf : (Try.prog.info? 25).map (·.size) = some cs.length := by rw [info25, hlen]
  have hone : ∀ v ∈ cs, v.oneCell' = true := fun v hv => (Array.all_eq_true_iff_forall_mem.1 hR.2) v (by simpa using hv)
  have HC0 := Lib.hid d0.out
  have HC1 := Lib.hid d1.out
  have HC3 := Lib.hid d3.out
  have ht3 : Hid (w2.there (w.heap.size + 1 + 1 + 1) 0 16) := Lib.hid (HC3.out.there)
  have KS : Hid (∀ W', w2.grownBy W' (some (w.heap.size + 1 + 1 + 1)) → W'.there (w.heap.size + 1 + 1 + 1) 0 16 → w2.grownBy W' (some (w.heap.size + 1 + 1 + 1)) ∧ W'.there (w.heap.size + 1 + 1 + 1) 0 16 ∧ W'.rangeAt (w.heap.size) 0 cs ∧ W'.cell? ⟨w.heap.size + 1, 1, none⟩ = some (.int .i64 A)) := Lib.hid (fun W' g ht => ⟨g, ht, by have h := (HC0.out.keeps g (by omega)).range; simpa using h, (HC1.out.keeps g (by omega)).cell 1 _ rfl⟩)
  refine wp_region_held_drew (S := (fun W' => w2.grownBy W' (some (w.heap.size + 1 + 1 + 1)) ∧ W'.there (w.heap.size + 1 + 1 + 1) 0 16 ∧ W'.rangeAt (w.heap.size) 0 cs ∧ W'.cell? ⟨w.heap.size + 1, 1, none⟩ = some (.int .i64 A))) (by kernel_rfl) (KS.out _ (g_drew (g_refl _ _)) ht3.out) (fun hHeld => ?_)
  refine wpAnyH_take (i := 0) (v := .agg cs.toArray) rfl (by kernel_rfl) (by kernel_rfl) (by kernel_rfl) (fun _ _ _ h => h) (yieldsIf_load_mid (by rfl) 25 _ rfl (w.heap.size) 0 rfl cs _ (fun w hw => hw.2.2.1) Try.underlying25 rfl hinf) hHeld ?_
  simp only [Act.put, List.setIfInBounds_toArray, List.set_cons_zero, List.set_cons_succ, List.getElem_toArray, List.getElem_cons_zero, List.getElem_cons_succ]
  refine wpAnyH_take (i := 1) (v := .pointer (some ⟨w.heap.size + 1, 1, none⟩)) rfl (by kernel_rfl) (by kernel_rfl) (by kernel_rfl) (fun _ _ _ h => h) (Or.inl ⟨by rfl, fun w hw => by go_simp⟩) hHeld ?_
  simp only [Act.put, List.setIfInBounds_toArray, List.set_cons_zero, List.set_cons_succ, List.getElem_toArray, List.getElem_cons_zero, List.getElem_cons_succ]
  refine wpAnyH_take (i := 2) (v := .int .i64 A) rfl (by kernel_rfl) (by kernel_rfl) (by kernel_rfl) (fun _ _ _ h => h) (Or.inl ⟨by rfl, fun w hw => by have hcc := hw.2.2.2; clear hw; go_simp⟩) hHeld ?_
  simp only [Act.put, List.setIfInBounds_toArray, List.set_cons_zero, List.set_cons_succ, List.getElem_toArray, List.getElem_cons_zero, List.getElem_cons_succ]
  refine wpAnyH_ready (rs := [3]) (by kernel_rfl) (by simp) (AllReadyH.cons rfl (fun K hK => ?_) AllReadyH.nil)
  rw [if_pos (by rfl)]
  refine wp_store_mid 25 _ _ rfl (w.heap.size + 1 + 1 + 1) 0 cs.toArray rfl rfl (by have h := hHeld.2.1; rw [← hlen] at h; simpa using h) (by rw [hinf]; simp) hR.2 ?_
  have gS := g_setAll (w.heap.size + 1 + 1 + 1) cs.toArray.toList 0 _ _ hHeld.1
  refine hK.out _ _ (KS.out _ gS (World.there_setCells hHeld.2.1 _ 0 _)) (fun hHeld2 => ?_)
  clear hK K
  have hbl := (HC3.out.drew).setAll cs.toArray (by rw [hR.1]; rfl)
  have HBL := Lib.hid hbl
  have GS := Lib.hid gS
  generalize World.setCells _ _ _ _ = w9 at *
  simp only [Act.put, List.setIfInBounds_toArray, List.set_cons_zero, List.set_cons_succ, List.getElem_toArray, List.getElem_cons_zero, List.getElem_cons_succ]
  refine wpAnyH_take (i := 4) (v := .int .i64 A) rfl (by kernel_rfl) (by kernel_rfl) (by kernel_rfl) (fun _ _ _ h => h) (Or.inl ⟨by rfl, fun w hw => by clear hw; go_simp⟩) hHeld2 ?_
  simp only [Act.put, List.setIfInBounds_toArray, List.set_cons_zero, List.set_cons_succ, List.getElem_toArray, List.getElem_cons_zero, List.getElem_cons_succ]
  refine wpAnyH_take (i := 5) (v := .int .i64 0) rfl (by kernel_rfl) (by kernel_rfl) (by kernel_rfl) (fun _ _ _ h => h) (Or.inl ⟨by rfl, fun w hw => by clear hw; go_simp⟩) hHeld2 ?_
  simp only [Act.put, List.setIfInBounds_toArray, List.set_cons_zero, List.set_cons_succ, List.getElem_toArray, List.getElem_cons_zero, List.getElem_cons_succ]
  refine wpAnyH_done (by kernel_rfl) ?_ _
  clear hHeld hHeld2 hbl gS
  go_wp2_with fail
  exact bodyPost_ret (resR3 Try.results8 _ _ _ cs.toArray (.int .i64 (A)) (.int .i64 0) hR rfl rfl rfl HBL.out) rfl ⟨rfl, g_in (g_trans bA G12.out) GS.out (by omega)⟩

set_option maxRecDepth 100000 in
set_option maxHeartbeats 3200000 in
theorem rdo_jumpz_true (F : Nat → Int) (pc B C rk rn : Int) (A : Nat) (hA : A < 8) (hp1 : 0 ≤ pc) (hp2 : pc < 512) (hc : ∀ w, Calls Try.prog 22 #[.agg #[.int .i64 9, .int .i64 A, .int .i64 B, .int .i64 C]] w fun e w' => e = .returned (.bool true) ∧ w.grownBy w' none) (hl : ∀ w, Calls Try.prog 23 #[.int .i64 9] w fun e w' => e = .returned (.bool true) ∧ w.grownBy w' none) (hz : ∀ w, Calls Try.prog 24 #[.agg #[.int .i64 (F (A * 2)), .int .i64 (F (A * 2 + 1))]] w fun e w' => e = .returned (.bool true) ∧ w.grownBy w' none) (w : World) : Calls Try.prog 8 #[.agg (rgv F), .int .i64 pc, .agg #[.int .i64 9, .int .i64 A, .int .i64 B, .int .i64 C], .agg #[.int .i64 rk, .int .i64 rn]] w fun e w' => e = .returned (.tuple #[.agg (rgv F), .int .i64 B, .int .i64 0]) ∧ w.grownBy w' none := by
  have hR := rg_rgv F
  have hx : (rgv F)[A * 2]? = some (.int .i64 (F (A * 2))) := rgv_get F (by omega)
  have hy : (rgv F)[A * 2 + 1]? = some (.int .i64 (F (A * 2 + 1))) := rgv_get F (by omega)
  generalize rgv F = R at *
  obtain ⟨cs, rfl⟩ : ∃ cs : List Value, R = cs.toArray := ⟨R.toList, by simp⟩
  generalize F (A * 2) = x at *
  generalize F (A * 2 + 1) = y at *
  have hi2 : (A : Int) < 8 := by omega
  have hw : wrap64 (pc + 1) = pc + 1 := by unfold wrap64; omega
  have b0 : Hid (Blk ((((w.alloc (.cells cs.toArray 25)).alloc (.cells #[.int .i64 9, .int .i64 A, .int .i64 B, .int .i64 C] 28)).alloc (.cells #[.int .i64 rk, .int .i64 rn] 24)).alloc (.cells #[.int .i64 0, .int .i64 0, .int .i64 0, .int .i64 0, .int .i64 0, .int .i64 0, .int .i64 0, .int .i64 0, .int .i64 0, .int .i64 0, .int .i64 0, .int .i64 0, .int .i64 0, .int .i64 0, .int .i64 0, .int .i64 0] 25)) (w.heap.size) cs.toArray 25) := Lib.hid (by have h := (((Blk.new w cs.toArray 25).keepn (g_alloc (g_refl (w.alloc (.cells cs.toArray 25)) none) (.cells #[.int .i64 9, .int .i64 A, .int .i64 B, .int .i64 C] 28))).keepn (g_alloc (g_refl ((w.alloc (.cells cs.toArray 25)).alloc (.cells #[.int .i64 9, .int .i64 A, .int .i64 B, .int .i64 C] 28)) none) (.cells #[.int .i64 rk, .int .i64 rn] 24))).keepn (g_alloc (g_refl (((w.alloc (.cells cs.toArray 25)).alloc (.cells #[.int .i64 9, .int .i64 A, .int .i64 B, .int .i64 C] 28)).alloc (.cells #[.int .i64 rk, .int .i64 rn] 24)) none) (.cells #[.int .i64 0, .int .i64 0, .int .i64 0, .int .i64 0, .int .i64 0, .int .i64 0, .int .i64 0, .int .i64 0, .int .i64 0, .int .i64 0, .int .i64 0, .int .i64 0, .int .i64 0, .int .i64 0, .int .i64 0, .int .i64 0] 25)); simpa using h)
  have b1 : Hid (Blk ((((w.alloc (.cells cs.toArray 25)).alloc (.cells #[.int .i64 9, .int .i64 A, .int .i64 B, .int .i64 C] 28)).alloc (.cells #[.int .i64 rk, .int .i64 rn] 24)).alloc (.cells #[.int .i64 0, .int .i64 0, .int .i64 0, .int .i64 0, .int .i64 0, .int .i64 0, .int .i64 0, .int .i64 0, .int .i64 0, .int .i64 0, .int .i64 0, .int .i64 0, .int .i64 0, .int .i64 0, .int .i64 0, .int .i64 0] 25)) (w.heap.size + 1) #[.int .i64 9, .int .i64 A, .int .i64 B, .int .i64 C] 28) := Lib.hid (by have h := ((Blk.new (w.alloc (.cells cs.toArray 25)) #[.int .i64 9, .int .i64 A, .int .i64 B, .int .i64 C] 28).keepn (g_alloc (g_refl ((w.alloc (.cells cs.toArray 25)).alloc (.cells #[.int .i64 9, .int .i64 A, .int .i64 B, .int .i64 C] 28)) none) (.cells #[.int .i64 rk, .int .i64 rn] 24))).keepn (g_alloc (g_refl (((w.alloc (.cells cs.toArray 25)).alloc (.cells #[.int .i64 9, .int .i64 A, .int .i64 B, .int .i64 C] 28)).alloc (.cells #[.int .i64 rk, .int .i64 rn] 24)) none) (.cells #[.int .i64 0, .int .i64 0, .int .i64 0, .int .i64 0, .int .i64 0, .int .i64 0, .int .i64 0, .int .i64 0, .int .i64 0, .int .i64 0, .int .i64 0, .int .i64 0, .int .i64 0, .int .i64 0, .int .i64 0, .int .i64 0] 25)); simpa using h)
  have b2 : Hid (Blk ((((w.alloc (.cells cs.toArray 25)).alloc (.cells #[.int .i64 9, .int .i64 A, .int .i64 B, .int .i64 C] 28)).alloc (.cells #[.int .i64 rk, .int .i64 rn] 24)).alloc (.cells #[.int .i64 0, .int .i64 0, .int .i64 0, .int .i64 0, .int .i64 0, .int .i64 0, .int .i64 0, .int .i64 0, .int .i64 0, .int .i64 0, .int .i64 0, .int .i64 0, .int .i64 0, .int .i64 0, .int .i64 0, .int .i64 0] 25)) (w.heap.size + 1 + 1) #[.int .i64 rk, .int .i64 rn] 24) := Lib.hid (by have h := (Blk.new ((w.alloc (.cells cs.toArray 25)).alloc (.cells #[.int .i64 9, .int .i64 A, .int .i64 B, .int .i64 C] 28)) #[.int .i64 rk, .int .i64 rn] 24).keepn (g_alloc (g_refl (((w.alloc (.cells cs.toArray 25)).alloc (.cells #[.int .i64 9, .int .i64 A, .int .i64 B, .int .i64 C] 28)).alloc (.cells #[.int .i64 rk, .int .i64 rn] 24)) none) (.cells #[.int .i64 0, .int .i64 0, .int .i64 0, .int .i64 0, .int .i64 0, .int .i64 0, .int .i64 0, .int .i64 0, .int .i64 0, .int .i64 0, .int .i64 0, .int .i64 0, .int .i64 0, .int .i64 0, .int .i64 0, .int .i64 0] 25)); simpa using h)
  have b3 : Hid (Blk ((((w.alloc (.cells cs.toArray 25)).alloc (.cells #[.int .i64 9, .int .i64 A, .int .i64 B, .int .i64 C] 28)).alloc (.cells #[.int .i64 rk, .int .i64 rn] 24)).alloc (.cells #[.int .i64 0, .int .i64 0, .int .i64 0, .int .i64 0, .int .i64 0, .int .i64 0, .int .i64 0, .int .i64 0, .int .i64 0, .int .i64 0, .int .i64 0, .int .i64 0, .int .i64 0, .int .i64 0, .int .i64 0, .int .i64 0] 25)) (w.heap.size + 1 + 1 + 1) Z25 25) := Lib.hid (by have h := Blk.new (((w.alloc (.cells cs.toArray 25)).alloc (.cells #[.int .i64 9, .int .i64 A, .int .i64 B, .int .i64 C] 28)).alloc (.cells #[.int .i64 rk, .int .i64 rn] 24)) #[.int .i64 0, .int .i64 0, .int .i64 0, .int .i64 0, .int .i64 0, .int .i64 0, .int .i64 0, .int .i64 0, .int .i64 0, .int .i64 0, .int .i64 0, .int .i64 0, .int .i64 0, .int .i64 0, .int .i64 0, .int .i64 0] 25; have h2 : Blk ((((w.alloc (.cells cs.toArray 25)).alloc (.cells #[.int .i64 9, .int .i64 A, .int .i64 B, .int .i64 C] 28)).alloc (.cells #[.int .i64 rk, .int .i64 rn] 24)).alloc (.cells #[.int .i64 0, .int .i64 0, .int .i64 0, .int .i64 0, .int .i64 0, .int .i64 0, .int .i64 0, .int .i64 0, .int .i64 0, .int .i64 0, .int .i64 0, .int .i64 0, .int .i64 0, .int .i64 0, .int .i64 0, .int .i64 0] 25)) (w.heap.size + 1 + 1 + 1) #[.int .i64 0, .int .i64 0, .int .i64 0, .int .i64 0, .int .i64 0, .int .i64 0, .int .i64 0, .int .i64 0, .int .i64 0, .int .i64 0, .int .i64 0, .int .i64 0, .int .i64 0, .int .i64 0, .int .i64 0, .int .i64 0] 25 := (by simpa using h); exact h2)
  have bA := g_alloc (g_alloc (g_alloc (g_alloc (g_refl w none) (.cells cs.toArray 25)) (.cells #[.int .i64 9, .int .i64 A, .int .i64 B, .int .i64 C] 28)) (.cells #[.int .i64 rk, .int .i64 rn] 24)) (.cells #[.int .i64 0, .int .i64 0, .int .i64 0, .int .i64 0, .int .i64 0, .int .i64 0, .int .i64 0, .int .i64 0, .int .i64 0, .int .i64 0, .int .i64 0, .int .i64 0, .int .i64 0, .int .i64 0, .int .i64 0, .int .i64 0] 25)
  have HX := Lib.hid hx
  have HY := Lib.hid hy
  clear hx hy
  go_enter Try.func8, Try.ntmps8
  go_wp2_with fail
  refine (hc _).mono ?_
  rintro e w1 ⟨rfl, g1⟩
  have c1 := Lib.hid (b1.out.keepn g1)
  have c1_0 := c1.out.cell 0 (.int .i64 9) rfl
  go_wp2_with fail
  refine (hl _).mono ?_
  rintro e w2 ⟨rfl, g2⟩
  have g12 := g_trans g1 g2
  have G12 := Lib.hid g12
  have d0 := Lib.hid (b0.out.keepn g12)
  have d1 := Lib.hid (b1.out.keepn g12)
  have d2 := Lib.hid (b2.out.keepn g12)
  have d3 := Lib.hid (b3.out.keepn g12)
  clear g1 g2 g12 c1_0
  have d1_0 := d1.out.cell 0 (.int .i64 9) rfl
  have d1_1 := d1.out.cell 1 (.int .i64 A) rfl
  have d1_2 := d1.out.cell 2 (.int .i64 B) rfl
  have d1_3 := d1.out.cell 3 (.int .i64 C) rfl
  have c0 := d0.out.cell _ _ HX.out
  have c1 := d0.out.cell _ _ HY.out
  go_wp2_with fail
  refine (hz _).mono ?_
  rintro e w4 ⟨rfl, g4⟩
  have G14 := Lib.hid (g_trans G12.out g4)
  have f0 := Lib.hid (b0.out.keepn G14.out)
  have f1 := Lib.hid (b1.out.keepn G14.out)
  have f3 := Lib.hid (b3.out.keepn G14.out)
  have f1_2 := f1.out.cell 2 (.int .i64 B) rfl
  clear c0 c1 d1_0 d1_1 d1_2 d1_3
  go_wp2_with fail
  have hu := Try.underlying25
  have hlen : cs.length = 16 := by simpa using hR.1
  have hinf : (Try.prog.info? 25).map (·.size) = some cs.length := by rw [info25, hlen]
  have hone : ∀ v ∈ cs, v.oneCell' = true := fun v hv => (Array.all_eq_true_iff_forall_mem.1 hR.2) v (by simpa using hv)
  have HC0 := Lib.hid f0.out
  have HC1 := Lib.hid f1.out
  have HC3 := Lib.hid f3.out
  have ht3 : Hid (w4.there (w.heap.size + 1 + 1 + 1) 0 16) := Lib.hid (HC3.out.there)
  have KS : Hid (∀ W', w4.grownBy W' (some (w.heap.size + 1 + 1 + 1)) → W'.there (w.heap.size + 1 + 1 + 1) 0 16 → w4.grownBy W' (some (w.heap.size + 1 + 1 + 1)) ∧ W'.there (w.heap.size + 1 + 1 + 1) 0 16 ∧ W'.rangeAt (w.heap.size) 0 cs ∧ W'.cell? ⟨w.heap.size + 1, 2, none⟩ = some (.int .i64 B)) := Lib.hid (fun W' g ht => ⟨g, ht, by have h := (HC0.out.keeps g (by omega)).range; simpa using h, (HC1.out.keeps g (by omega)).cell 2 _ rfl⟩)
  refine wp_region_held_drew (S := (fun W' => w4.grownBy W' (some (w.heap.size + 1 + 1 + 1)) ∧ W'.there (w.heap.size + 1 + 1 + 1) 0 16 ∧ W'.rangeAt (w.heap.size) 0 cs ∧ W'.cell? ⟨w.heap.size + 1, 2, none⟩ = some (.int .i64 B))) (by kernel_rfl) (KS.out _ (g_drew (g_refl _ _)) ht3.out) (fun hHeld => ?_)
  refine wpAnyH_take (i := 0) (v := .agg cs.toArray) rfl (by kernel_rfl) (by kernel_rfl) (by kernel_rfl) (fun _ _ _ h => h) (yieldsIf_load_mid (by rfl) 25 _ rfl (w.heap.size) 0 rfl cs _ (fun w hw => hw.2.2.1) Try.underlying25 rfl hinf) hHeld ?_
  simp only [Act.put, List.setIfInBounds_toArray, List.set_cons_zero, List.set_cons_succ, List.getElem_toArray, List.getElem_cons_zero, List.getElem_cons_succ]
  refine wpAnyH_take (i := 1) (v := .pointer (some ⟨w.heap.size + 1, 2, none⟩)) rfl (by kernel_rfl) (by kernel_rfl) (by kernel_rfl) (fun _ _ _ h => h) (Or.inl ⟨by rfl, fun w hw => by go_simp⟩) hHeld ?_
  simp only [Act.put, List.setIfInBounds_toArray, List.set_cons_zero, List.set_cons_succ, List.getElem_toArray, List.getElem_cons_zero, List.getElem_cons_succ]
  refine wpAnyH_take (i := 2) (v := .int .i64 B) rfl (by kernel_rfl) (by kernel_rfl) (by kernel_rfl) (fun _ _ _ h => h) (Or.inl ⟨by rfl, fun w hw => by have hcc := hw.2.2.2; clear hw; go_simp⟩) hHeld ?_
  simp only [Act.put, List.setIfInBounds_toArray, List.set_cons_zero, List.set_cons_succ, List.getElem_toArray, List.getElem_cons_zero, List.getElem_cons_succ]
  refine wpAnyH_ready (rs := [3]) (by kernel_rfl) (by simp) (AllReadyH.cons rfl (fun K hK => ?_) AllReadyH.nil)
  rw [if_pos (by rfl)]
  refine wp_store_mid 25 _ _ rfl (w.heap.size + 1 + 1 + 1) 0 cs.toArray rfl rfl (by have h := hHeld.2.1; rw [← hlen] at h; simpa using h) (by rw [hinf]; simp) hR.2 ?_
  have gS := g_setAll (w.heap.size + 1 + 1 + 1) cs.toArray.toList 0 _ _ hHeld.1
  refine hK.out _ _ (KS.out _ gS (World.there_setCells hHeld.2.1 _ 0 _)) (fun hHeld2 => ?_)
  clear hK K
  have hbl := (HC3.out.drew).setAll cs.toArray (by rw [hR.1]; rfl)
  have HBL := Lib.hid hbl
  have GS := Lib.hid gS
  generalize World.setCells _ _ _ _ = w9 at *
  simp only [Act.put, List.setIfInBounds_toArray, List.set_cons_zero, List.set_cons_succ, List.getElem_toArray, List.getElem_cons_zero, List.getElem_cons_succ]
  refine wpAnyH_take (i := 4) (v := .int .i64 B) rfl (by kernel_rfl) (by kernel_rfl) (by kernel_rfl) (fun _ _ _ h => h) (Or.inl ⟨by rfl, fun w hw => by clear hw; go_simp⟩) hHeld2 ?_
  simp only [Act.put, List.setIfInBounds_toArray, List.set_cons_zero, List.set_cons_succ, List.getElem_toArray, List.getElem_cons_zero, List.getElem_cons_succ]
  refine wpAnyH_take (i := 5) (v := .int .i64 0) rfl (by kernel_rfl) (by kernel_rfl) (by kernel_rfl) (fun _ _ _ h => h) (Or.inl ⟨by rfl, fun w hw => by clear hw; go_simp⟩) hHeld2 ?_
  simp only [Act.put, List.setIfInBounds_toArray, List.set_cons_zero, List.set_cons_succ, List.getElem_toArray, List.getElem_cons_zero, List.getElem_cons_succ]
  refine wpAnyH_done (by kernel_rfl) ?_ _
  clear hHeld hHeld2 hbl gS
  go_wp2_with fail
  exact bodyPost_ret (resR3 Try.results8 _ _ _ cs.toArray (.int .i64 (B)) (.int .i64 0) hR rfl rfl rfl HBL.out) rfl ⟨rfl, g_in (g_trans bA G14.out) GS.out (by omega)⟩

set_option maxRecDepth 100000 in
set_option maxHeartbeats 3200000 in
theorem rdo_jumpz_false (F : Nat → Int) (pc B C rk rn : Int) (A : Nat) (hA : A < 8) (hp1 : 0 ≤ pc) (hp2 : pc < 512) (hc : ∀ w, Calls Try.prog 22 #[.agg #[.int .i64 9, .int .i64 A, .int .i64 B, .int .i64 C]] w fun e w' => e = .returned (.bool true) ∧ w.grownBy w' none) (hl : ∀ w, Calls Try.prog 23 #[.int .i64 9] w fun e w' => e = .returned (.bool true) ∧ w.grownBy w' none) (hz : ∀ w, Calls Try.prog 24 #[.agg #[.int .i64 (F (A * 2)), .int .i64 (F (A * 2 + 1))]] w fun e w' => e = .returned (.bool false) ∧ w.grownBy w' none) (w : World) : Calls Try.prog 8 #[.agg (rgv F), .int .i64 pc, .agg #[.int .i64 9, .int .i64 A, .int .i64 B, .int .i64 C], .agg #[.int .i64 rk, .int .i64 rn]] w fun e w' => e = .returned (.tuple #[.agg (rgv F), .int .i64 (pc + 1), .int .i64 0]) ∧ w.grownBy w' none := by
  have hR := rg_rgv F
  have hx : (rgv F)[A * 2]? = some (.int .i64 (F (A * 2))) := rgv_get F (by omega)
  have hy : (rgv F)[A * 2 + 1]? = some (.int .i64 (F (A * 2 + 1))) := rgv_get F (by omega)
  generalize rgv F = R at *
  generalize F (A * 2) = x at *
  generalize F (A * 2 + 1) = y at *
  have hi2 : (A : Int) < 8 := by omega
  have hw : wrap64 (pc + 1) = pc + 1 := by unfold wrap64; omega
  have b0 : Hid (Blk ((((w.alloc (.cells R 25)).alloc (.cells #[.int .i64 9, .int .i64 A, .int .i64 B, .int .i64 C] 28)).alloc (.cells #[.int .i64 rk, .int .i64 rn] 24)).alloc (.cells #[.int .i64 0, .int .i64 0, .int .i64 0, .int .i64 0, .int .i64 0, .int .i64 0, .int .i64 0, .int .i64 0, .int .i64 0, .int .i64 0, .int .i64 0, .int .i64 0, .int .i64 0, .int .i64 0, .int .i64 0, .int .i64 0] 25)) (w.heap.size) R 25) := Lib.hid (by have h := (((Blk.new w R 25).keepn (g_alloc (g_refl (w.alloc (.cells R 25)) none) (.cells #[.int .i64 9, .int .i64 A, .int .i64 B, .int .i64 C] 28))).keepn (g_alloc (g_refl ((w.alloc (.cells R 25)).alloc (.cells #[.int .i64 9, .int .i64 A, .int .i64 B, .int .i64 C] 28)) none) (.cells #[.int .i64 rk, .int .i64 rn] 24))).keepn (g_alloc (g_refl (((w.alloc (.cells R 25)).alloc (.cells #[.int .i64 9, .int .i64 A, .int .i64 B, .int .i64 C] 28)).alloc (.cells #[.int .i64 rk, .int .i64 rn] 24)) none) (.cells #[.int .i64 0, .int .i64 0, .int .i64 0, .int .i64 0, .int .i64 0, .int .i64 0, .int .i64 0, .int .i64 0, .int .i64 0, .int .i64 0, .int .i64 0, .int .i64 0, .int .i64 0, .int .i64 0, .int .i64 0, .int .i64 0] 25)); simpa using h)
  have b1 : Hid (Blk ((((w.alloc (.cells R 25)).alloc (.cells #[.int .i64 9, .int .i64 A, .int .i64 B, .int .i64 C] 28)).alloc (.cells #[.int .i64 rk, .int .i64 rn] 24)).alloc (.cells #[.int .i64 0, .int .i64 0, .int .i64 0, .int .i64 0, .int .i64 0, .int .i64 0, .int .i64 0, .int .i64 0, .int .i64 0, .int .i64 0, .int .i64 0, .int .i64 0, .int .i64 0, .int .i64 0, .int .i64 0, .int .i64 0] 25)) (w.heap.size + 1) #[.int .i64 9, .int .i64 A, .int .i64 B, .int .i64 C] 28) := Lib.hid (by have h := ((Blk.new (w.alloc (.cells R 25)) #[.int .i64 9, .int .i64 A, .int .i64 B, .int .i64 C] 28).keepn (g_alloc (g_refl ((w.alloc (.cells R 25)).alloc (.cells #[.int .i64 9, .int .i64 A, .int .i64 B, .int .i64 C] 28)) none) (.cells #[.int .i64 rk, .int .i64 rn] 24))).keepn (g_alloc (g_refl (((w.alloc (.cells R 25)).alloc (.cells #[.int .i64 9, .int .i64 A, .int .i64 B, .int .i64 C] 28)).alloc (.cells #[.int .i64 rk, .int .i64 rn] 24)) none) (.cells #[.int .i64 0, .int .i64 0, .int .i64 0, .int .i64 0, .int .i64 0, .int .i64 0, .int .i64 0, .int .i64 0, .int .i64 0, .int .i64 0, .int .i64 0, .int .i64 0, .int .i64 0, .int .i64 0, .int .i64 0, .int .i64 0] 25)); simpa using h)
  have b2 : Hid (Blk ((((w.alloc (.cells R 25)).alloc (.cells #[.int .i64 9, .int .i64 A, .int .i64 B, .int .i64 C] 28)).alloc (.cells #[.int .i64 rk, .int .i64 rn] 24)).alloc (.cells #[.int .i64 0, .int .i64 0, .int .i64 0, .int .i64 0, .int .i64 0, .int .i64 0, .int .i64 0, .int .i64 0, .int .i64 0, .int .i64 0, .int .i64 0, .int .i64 0, .int .i64 0, .int .i64 0, .int .i64 0, .int .i64 0] 25)) (w.heap.size + 1 + 1) #[.int .i64 rk, .int .i64 rn] 24) := Lib.hid (by have h := (Blk.new ((w.alloc (.cells R 25)).alloc (.cells #[.int .i64 9, .int .i64 A, .int .i64 B, .int .i64 C] 28)) #[.int .i64 rk, .int .i64 rn] 24).keepn (g_alloc (g_refl (((w.alloc (.cells R 25)).alloc (.cells #[.int .i64 9, .int .i64 A, .int .i64 B, .int .i64 C] 28)).alloc (.cells #[.int .i64 rk, .int .i64 rn] 24)) none) (.cells #[.int .i64 0, .int .i64 0, .int .i64 0, .int .i64 0, .int .i64 0, .int .i64 0, .int .i64 0, .int .i64 0, .int .i64 0, .int .i64 0, .int .i64 0, .int .i64 0, .int .i64 0, .int .i64 0, .int .i64 0, .int .i64 0] 25)); simpa using h)
  have b3 : Hid (Blk ((((w.alloc (.cells R 25)).alloc (.cells #[.int .i64 9, .int .i64 A, .int .i64 B, .int .i64 C] 28)).alloc (.cells #[.int .i64 rk, .int .i64 rn] 24)).alloc (.cells #[.int .i64 0, .int .i64 0, .int .i64 0, .int .i64 0, .int .i64 0, .int .i64 0, .int .i64 0, .int .i64 0, .int .i64 0, .int .i64 0, .int .i64 0, .int .i64 0, .int .i64 0, .int .i64 0, .int .i64 0, .int .i64 0] 25)) (w.heap.size + 1 + 1 + 1) Z25 25) := Lib.hid (by have h := Blk.new (((w.alloc (.cells R 25)).alloc (.cells #[.int .i64 9, .int .i64 A, .int .i64 B, .int .i64 C] 28)).alloc (.cells #[.int .i64 rk, .int .i64 rn] 24)) #[.int .i64 0, .int .i64 0, .int .i64 0, .int .i64 0, .int .i64 0, .int .i64 0, .int .i64 0, .int .i64 0, .int .i64 0, .int .i64 0, .int .i64 0, .int .i64 0, .int .i64 0, .int .i64 0, .int .i64 0, .int .i64 0] 25; have h2 : Blk ((((w.alloc (.cells R 25)).alloc (.cells #[.int .i64 9, .int .i64 A, .int .i64 B, .int .i64 C] 28)).alloc (.cells #[.int .i64 rk, .int .i64 rn] 24)).alloc (.cells #[.int .i64 0, .int .i64 0, .int .i64 0, .int .i64 0, .int .i64 0, .int .i64 0, .int .i64 0, .int .i64 0, .int .i64 0, .int .i64 0, .int .i64 0, .int .i64 0, .int .i64 0, .int .i64 0, .int .i64 0, .int .i64 0] 25)) (w.heap.size + 1 + 1 + 1) #[.int .i64 0, .int .i64 0, .int .i64 0, .int .i64 0, .int .i64 0, .int .i64 0, .int .i64 0, .int .i64 0, .int .i64 0, .int .i64 0, .int .i64 0, .int .i64 0, .int .i64 0, .int .i64 0, .int .i64 0, .int .i64 0] 25 := (by simpa using h); exact h2)
  have bA := g_alloc (g_alloc (g_alloc (g_alloc (g_refl w none) (.cells R 25)) (.cells #[.int .i64 9, .int .i64 A, .int .i64 B, .int .i64 C] 28)) (.cells #[.int .i64 rk, .int .i64 rn] 24)) (.cells #[.int .i64 0, .int .i64 0, .int .i64 0, .int .i64 0, .int .i64 0, .int .i64 0, .int .i64 0, .int .i64 0, .int .i64 0, .int .i64 0, .int .i64 0, .int .i64 0, .int .i64 0, .int .i64 0, .int .i64 0, .int .i64 0] 25)
  have HX := Lib.hid hx
  have HY := Lib.hid hy
  clear hx hy
  go_enter Try.func8, Try.ntmps8
  go_wp2_with fail
  refine (hc _).mono ?_
  rintro e w1 ⟨rfl, g1⟩
  have c1 := Lib.hid (b1.out.keepn g1)
  have c1_0 := c1.out.cell 0 (.int .i64 9) rfl
  go_wp2_with fail
  refine (hl _).mono ?_
  rintro e w2 ⟨rfl, g2⟩
  have g12 := g_trans g1 g2
  have G12 := Lib.hid g12
  have d0 := Lib.hid (b0.out.keepn g12)
  have d1 := Lib.hid (b1.out.keepn g12)
  have d2 := Lib.hid (b2.out.keepn g12)
  have d3 := Lib.hid (b3.out.keepn g12)
  clear g1 g2 g12 c1_0
  have d1_0 := d1.out.cell 0 (.int .i64 9) rfl
  have d1_1 := d1.out.cell 1 (.int .i64 A) rfl
  have d1_2 := d1.out.cell 2 (.int .i64 B) rfl
  have d1_3 := d1.out.cell 3 (.int .i64 C) rfl
  have c0 := d0.out.cell _ _ HX.out
  have c1 := d0.out.cell _ _ HY.out
  go_wp2_with fail
  refine (hz _).mono ?_
  rintro e w4 ⟨rfl, g4⟩
  have G14 := Lib.hid (g_trans G12.out g4)
  have f0 := Lib.hid (b0.out.keepn G14.out)
  have f1 := Lib.hid (b1.out.keepn G14.out)
  have f3 := Lib.hid (b3.out.keepn G14.out)
  have f1_2 := f1.out.cell 2 (.int .i64 B) rfl
  clear c0 c1 d1_0 d1_1 d1_2 d1_3
  go_wp2_with (first | (refine load25 rfl _ rfl (w.heap.size) rfl R hR f0.out ?_) | (refine store25 rfl _ _ rfl (w.heap.size + 1 + 1 + 1) rfl R rfl hR Z25 rfl f3.out ?_; intro w9 hb9 hg9))
  exact bodyPost_ret (resR3 Try.results8 _ _ _ R (.int .i64 (pc + 1)) (.int .i64 0) hR rfl rfl rfl hb9) rfl ⟨rfl, g_in (g_trans bA G14.out) hg9 (by omega)⟩

set_option maxRecDepth 100000 in
set_option maxHeartbeats 3200000 in
theorem rdo_made_err (F : Nat → Int) (pc B C rk rn p s : Int) (A : Int) (k : Nat) (hk : mkK k) (t : Int) (ht : t ≠ 0) (hp1 : 0 ≤ pc) (hp2 : pc < 512) (hc : ∀ w, Calls Try.prog 22 #[.agg #[.int .i64 k, .int .i64 A, .int .i64 B, .int .i64 C]] w fun e w' => e = .returned (.bool true) ∧ w.grownBy w' none) (hl : ∀ w, Calls Try.prog 23 #[.int .i64 k] w fun e w' => e = .returned (.bool true) ∧ w.grownBy w' none) (hm : ∀ w, Calls Try.prog 25 #[.agg (rgv F), .agg #[.int .i64 k, .int .i64 A, .int .i64 B, .int .i64 C], .agg #[.int .i64 rk, .int .i64 rn]] w fun e w' => e = .returned (.tuple #[.agg #[.int .i64 p, .int .i64 s], .int .i64 t]) ∧ w.grownBy w' none) (w : World) : Calls Try.prog 8 #[.agg (rgv F), .int .i64 pc, .agg #[.int .i64 k, .int .i64 A, .int .i64 B, .int .i64 C], .agg #[.int .i64 rk, .int .i64 rn]] w fun e w' => e = .returned (.tuple #[.agg Z25, .int .i64 0, .int .i64 t]) ∧ w.grownBy w' none := by
  have q9 : ((k : Int) == 9) = false := by simp; unfold mkK at hk; omega
  have q8 : ((k : Int) == 8) = false := by simp; unfold mkK at hk; omega
  have q19 : ((k : Int) == 19) = false := by simp; unfold mkK at hk; omega
  have hw : wrap64 (pc + 1) = pc + 1 := by unfold wrap64; omega
  clear hk
  have hR := rg_rgv F
  have q : (t != 0) = true := by simp [ht]
  generalize rgv F = R at *
  have b0 : Hid (Blk ((((w.alloc (.cells R 25)).alloc (.cells #[.int .i64 k, .int .i64 A, .int .i64 B, .int .i64 C] 28)).alloc (.cells #[.int .i64 rk, .int .i64 rn] 24)).alloc (.cells #[.int .i64 0, .int .i64 0, .int .i64 0, .int .i64 0, .int .i64 0, .int .i64 0, .int .i64 0, .int .i64 0, .int .i64 0, .int .i64 0, .int .i64 0, .int .i64 0, .int .i64 0, .int .i64 0, .int .i64 0, .int .i64 0] 25)) (w.heap.size) R 25) := Lib.hid (by have h := (((Blk.new w R 25).keepn (g_alloc (g_refl (w.alloc (.cells R 25)) none) (.cells #[.int .i64 k, .int .i64 A, .int .i64 B, .int .i64 C] 28))).keepn (g_alloc (g_refl ((w.alloc (.cells R 25)).alloc (.cells #[.int .i64 k, .int .i64 A, .int .i64 B, .int .i64 C] 28)) none) (.cells #[.int .i64 rk, .int .i64 rn] 24))).keepn (g_alloc (g_refl (((w.alloc (.cells R 25)).alloc (.cells #[.int .i64 k, .int .i64 A, .int .i64 B, .int .i64 C] 28)).alloc (.cells #[.int .i64 rk, .int .i64 rn] 24)) none) (.cells #[.int .i64 0, .int .i64 0, .int .i64 0, .int .i64 0, .int .i64 0, .int .i64 0, .int .i64 0, .int .i64 0, .int .i64 0, .int .i64 0, .int .i64 0, .int .i64 0, .int .i64 0, .int .i64 0, .int .i64 0, .int .i64 0] 25)); simpa using h)
  have b1 : Hid (Blk ((((w.alloc (.cells R 25)).alloc (.cells #[.int .i64 k, .int .i64 A, .int .i64 B, .int .i64 C] 28)).alloc (.cells #[.int .i64 rk, .int .i64 rn] 24)).alloc (.cells #[.int .i64 0, .int .i64 0, .int .i64 0, .int .i64 0, .int .i64 0, .int .i64 0, .int .i64 0, .int .i64 0, .int .i64 0, .int .i64 0, .int .i64 0, .int .i64 0, .int .i64 0, .int .i64 0, .int .i64 0, .int .i64 0] 25)) (w.heap.size + 1) #[.int .i64 k, .int .i64 A, .int .i64 B, .int .i64 C] 28) := Lib.hid (by have h := ((Blk.new (w.alloc (.cells R 25)) #[.int .i64 k, .int .i64 A, .int .i64 B, .int .i64 C] 28).keepn (g_alloc (g_refl ((w.alloc (.cells R 25)).alloc (.cells #[.int .i64 k, .int .i64 A, .int .i64 B, .int .i64 C] 28)) none) (.cells #[.int .i64 rk, .int .i64 rn] 24))).keepn (g_alloc (g_refl (((w.alloc (.cells R 25)).alloc (.cells #[.int .i64 k, .int .i64 A, .int .i64 B, .int .i64 C] 28)).alloc (.cells #[.int .i64 rk, .int .i64 rn] 24)) none) (.cells #[.int .i64 0, .int .i64 0, .int .i64 0, .int .i64 0, .int .i64 0, .int .i64 0, .int .i64 0, .int .i64 0, .int .i64 0, .int .i64 0, .int .i64 0, .int .i64 0, .int .i64 0, .int .i64 0, .int .i64 0, .int .i64 0] 25)); simpa using h)
  have b2 : Hid (Blk ((((w.alloc (.cells R 25)).alloc (.cells #[.int .i64 k, .int .i64 A, .int .i64 B, .int .i64 C] 28)).alloc (.cells #[.int .i64 rk, .int .i64 rn] 24)).alloc (.cells #[.int .i64 0, .int .i64 0, .int .i64 0, .int .i64 0, .int .i64 0, .int .i64 0, .int .i64 0, .int .i64 0, .int .i64 0, .int .i64 0, .int .i64 0, .int .i64 0, .int .i64 0, .int .i64 0, .int .i64 0, .int .i64 0] 25)) (w.heap.size + 1 + 1) #[.int .i64 rk, .int .i64 rn] 24) := Lib.hid (by have h := (Blk.new ((w.alloc (.cells R 25)).alloc (.cells #[.int .i64 k, .int .i64 A, .int .i64 B, .int .i64 C] 28)) #[.int .i64 rk, .int .i64 rn] 24).keepn (g_alloc (g_refl (((w.alloc (.cells R 25)).alloc (.cells #[.int .i64 k, .int .i64 A, .int .i64 B, .int .i64 C] 28)).alloc (.cells #[.int .i64 rk, .int .i64 rn] 24)) none) (.cells #[.int .i64 0, .int .i64 0, .int .i64 0, .int .i64 0, .int .i64 0, .int .i64 0, .int .i64 0, .int .i64 0, .int .i64 0, .int .i64 0, .int .i64 0, .int .i64 0, .int .i64 0, .int .i64 0, .int .i64 0, .int .i64 0] 25)); simpa using h)
  have b3 : Hid (Blk ((((w.alloc (.cells R 25)).alloc (.cells #[.int .i64 k, .int .i64 A, .int .i64 B, .int .i64 C] 28)).alloc (.cells #[.int .i64 rk, .int .i64 rn] 24)).alloc (.cells #[.int .i64 0, .int .i64 0, .int .i64 0, .int .i64 0, .int .i64 0, .int .i64 0, .int .i64 0, .int .i64 0, .int .i64 0, .int .i64 0, .int .i64 0, .int .i64 0, .int .i64 0, .int .i64 0, .int .i64 0, .int .i64 0] 25)) (w.heap.size + 1 + 1 + 1) Z25 25) := Lib.hid (by have h := Blk.new (((w.alloc (.cells R 25)).alloc (.cells #[.int .i64 k, .int .i64 A, .int .i64 B, .int .i64 C] 28)).alloc (.cells #[.int .i64 rk, .int .i64 rn] 24)) #[.int .i64 0, .int .i64 0, .int .i64 0, .int .i64 0, .int .i64 0, .int .i64 0, .int .i64 0, .int .i64 0, .int .i64 0, .int .i64 0, .int .i64 0, .int .i64 0, .int .i64 0, .int .i64 0, .int .i64 0, .int .i64 0] 25; have h2 : Blk ((((w.alloc (.cells R 25)).alloc (.cells #[.int .i64 k, .int .i64 A, .int .i64 B, .int .i64 C] 28)).alloc (.cells #[.int .i64 rk, .int .i64 rn] 24)).alloc (.cells #[.int .i64 0, .int .i64 0, .int .i64 0, .int .i64 0, .int .i64 0, .int .i64 0, .int .i64 0, .int .i64 0, .int .i64 0, .int .i64 0, .int .i64 0, .int .i64 0, .int .i64 0, .int .i64 0, .int .i64 0, .int .i64 0] 25)) (w.heap.size + 1 + 1 + 1) #[.int .i64 0, .int .i64 0, .int .i64 0, .int .i64 0, .int .i64 0, .int .i64 0, .int .i64 0, .int .i64 0, .int .i64 0, .int .i64 0, .int .i64 0, .int .i64 0, .int .i64 0, .int .i64 0, .int .i64 0, .int .i64 0] 25 := (by simpa using h); exact h2)
  have bA := g_alloc (g_alloc (g_alloc (g_alloc (g_refl w none) (.cells R 25)) (.cells #[.int .i64 k, .int .i64 A, .int .i64 B, .int .i64 C] 28)) (.cells #[.int .i64 rk, .int .i64 rn] 24)) (.cells #[.int .i64 0, .int .i64 0, .int .i64 0, .int .i64 0, .int .i64 0, .int .i64 0, .int .i64 0, .int .i64 0, .int .i64 0, .int .i64 0, .int .i64 0, .int .i64 0, .int .i64 0, .int .i64 0, .int .i64 0, .int .i64 0] 25)
  go_enter Try.func8, Try.ntmps8
  go_wp2_with fail
  refine (hc _).mono ?_
  rintro e w1 ⟨rfl, g1⟩
  have c1 := Lib.hid (b1.out.keepn g1)
  have c1_0 := c1.out.cell 0 (.int .i64 k) rfl
  go_wp2_with fail
  refine (hl _).mono ?_
  rintro e w2 ⟨rfl, g2⟩
  have g12 := g_trans g1 g2
  have G12 := Lib.hid g12
  have d0 := Lib.hid (b0.out.keepn g12)
  have d1 := Lib.hid (b1.out.keepn g12)
  have d2 := Lib.hid (b2.out.keepn g12)
  have d3 := Lib.hid (b3.out.keepn g12)
  clear g1 g2 g12 c1_0
  have d1_0 := d1.out.cell 0 (.int .i64 k) rfl
  have d1_1 := d1.out.cell 1 (.int .i64 A) rfl
  have d1_2 := d1.out.cell 2 (.int .i64 B) rfl
  have d1_3 := d1.out.cell 3 (.int .i64 C) rfl
  have d2_0 := d2.out.cell 0 (.int .i64 rk) rfl
  have d2_1 := d2.out.cell 1 (.int .i64 rn) rfl
  go_wp2_with (first | (refine load25 rfl _ rfl (w.heap.size) rfl R hR d0.out ?_))
  refine (hm _).mono ?_
  rintro e w4 ⟨rfl, g4⟩
  have g5 := g_alloc (g_refl w4 none) (.cells #[.int .i64 p, .int .i64 s] 24)
  have G15 := Lib.hid (g_trans (g_trans G12.out g4) g5)
  have f0 := Lib.hid (b0.out.keepn G15.out)
  have f3 := Lib.hid (b3.out.keepn G15.out)
  have h4 := b1.out.keepn G15.out
  have d1_1 := h4.cell 1 (.int .i64 A) rfl
  have G4 := Lib.hid g4
  clear hm d1_0 d1_2 d1_3 d2_0 d2_1 h4 g4 g5
  go_wp2_with (first | (refine wpList_known rfl 25 _ rfl (.agg Z25) (build25 _) ?_) | (refine store25 rfl _ _ rfl (w.heap.size + 1 + 1 + 1) rfl Z25 rfl rg_z Z25 rfl f3.out ?_; intro w9 hb9 hg9))
  exact bodyPost_ret (resR3 Try.results8 _ _ _ Z25 (.int .i64 0) (.int .i64 t) rg_z rfl rfl rfl hb9) rfl ⟨rfl, g_in (g_trans bA G15.out) hg9 (by omega)⟩

set_option maxRecDepth 100000 in
set_option maxHeartbeats 3200000 in
theorem rdo_made_ok (F : Nat → Int) (pc B C rk rn p s : Int) (A : Nat) (hA : A < 8) (k : Nat) (hk : mkK k) (hp1 : 0 ≤ pc) (hp2 : pc < 512) (hc : ∀ w, Calls Try.prog 22 #[.agg #[.int .i64 k, .int .i64 A, .int .i64 B, .int .i64 C]] w fun e w' => e = .returned (.bool true) ∧ w.grownBy w' none) (hl : ∀ w, Calls Try.prog 23 #[.int .i64 k] w fun e w' => e = .returned (.bool true) ∧ w.grownBy w' none) (hm : ∀ w, Calls Try.prog 25 #[.agg (rgv F), .agg #[.int .i64 k, .int .i64 A, .int .i64 B, .int .i64 C], .agg #[.int .i64 rk, .int .i64 rn]] w fun e w' => e = .returned (.tuple #[.agg #[.int .i64 p, .int .i64 s], .int .i64 0]) ∧ w.grownBy w' none) (w : World) : Calls Try.prog 8 #[.agg (rgv F), .int .i64 pc, .agg #[.int .i64 k, .int .i64 A, .int .i64 B, .int .i64 C], .agg #[.int .i64 rk, .int .i64 rn]] w fun e w' => e = .returned (.tuple #[.agg (rgv (upd F A p s)), .int .i64 (pc + 1), .int .i64 0]) ∧ w.grownBy w' none := by
  have q9 : ((k : Int) == 9) = false := by simp; unfold mkK at hk; omega
  have q8 : ((k : Int) == 8) = false := by simp; unfold mkK at hk; omega
  have q19 : ((k : Int) == 19) = false := by simp; unfold mkK at hk; omega
  have hw : wrap64 (pc + 1) = pc + 1 := by unfold wrap64; omega
  clear hk
  have hR := rg_rgv F
  have hp := rput_in F A hA p s
  have hU := rg_rgv (upd F A p s)
  generalize rgv (upd F A p s) = U at *
  generalize rgv F = R at *
  have HP := Lib.hid hp
  clear hp
  have b0 : Hid (Blk ((((w.alloc (.cells R 25)).alloc (.cells #[.int .i64 k, .int .i64 A, .int .i64 B, .int .i64 C] 28)).alloc (.cells #[.int .i64 rk, .int .i64 rn] 24)).alloc (.cells #[.int .i64 0, .int .i64 0, .int .i64 0, .int .i64 0, .int .i64 0, .int .i64 0, .int .i64 0, .int .i64 0, .int .i64 0, .int .i64 0, .int .i64 0, .int .i64 0, .int .i64 0, .int .i64 0, .int .i64 0, .int .i64 0] 25)) (w.heap.size) R 25) := Lib.hid (by have h := (((Blk.new w R 25).keepn (g_alloc (g_refl (w.alloc (.cells R 25)) none) (.cells #[.int .i64 k, .int .i64 A, .int .i64 B, .int .i64 C] 28))).keepn (g_alloc (g_refl ((w.alloc (.cells R 25)).alloc (.cells #[.int .i64 k, .int .i64 A, .int .i64 B, .int .i64 C] 28)) none) (.cells #[.int .i64 rk, .int .i64 rn] 24))).keepn (g_alloc (g_refl (((w.alloc (.cells R 25)).alloc (.cells #[.int .i64 k, .int .i64 A, .int .i64 B, .int .i64 C] 28)).alloc (.cells #[.int .i64 rk, .int .i64 rn] 24)) none) (.cells #[.int .i64 0, .int .i64 0, .int .i64 0, .int .i64 0, .int .i64 0, .int .i64 0, .int .i64 0, .int .i64 0, .int .i64 0, .int .i64 0, .int .i64 0, .int .i64 0, .int .i64 0, .int .i64 0, .int .i64 0, .int .i64 0] 25)); simpa using h)
  have b1 : Hid (Blk ((((w.alloc (.cells R 25)).alloc (.cells #[.int .i64 k, .int .i64 A, .int .i64 B, .int .i64 C] 28)).alloc (.cells #[.int .i64 rk, .int .i64 rn] 24)).alloc (.cells #[.int .i64 0, .int .i64 0, .int .i64 0, .int .i64 0, .int .i64 0, .int .i64 0, .int .i64 0, .int .i64 0, .int .i64 0, .int .i64 0, .int .i64 0, .int .i64 0, .int .i64 0, .int .i64 0, .int .i64 0, .int .i64 0] 25)) (w.heap.size + 1) #[.int .i64 k, .int .i64 A, .int .i64 B, .int .i64 C] 28) := Lib.hid (by have h := ((Blk.new (w.alloc (.cells R 25)) #[.int .i64 k, .int .i64 A, .int .i64 B, .int .i64 C] 28).keepn (g_alloc (g_refl ((w.alloc (.cells R 25)).alloc (.cells #[.int .i64 k, .int .i64 A, .int .i64 B, .int .i64 C] 28)) none) (.cells #[.int .i64 rk, .int .i64 rn] 24))).keepn (g_alloc (g_refl (((w.alloc (.cells R 25)).alloc (.cells #[.int .i64 k, .int .i64 A, .int .i64 B, .int .i64 C] 28)).alloc (.cells #[.int .i64 rk, .int .i64 rn] 24)) none) (.cells #[.int .i64 0, .int .i64 0, .int .i64 0, .int .i64 0, .int .i64 0, .int .i64 0, .int .i64 0, .int .i64 0, .int .i64 0, .int .i64 0, .int .i64 0, .int .i64 0, .int .i64 0, .int .i64 0, .int .i64 0, .int .i64 0] 25)); simpa using h)
  have b2 : Hid (Blk ((((w.alloc (.cells R 25)).alloc (.cells #[.int .i64 k, .int .i64 A, .int .i64 B, .int .i64 C] 28)).alloc (.cells #[.int .i64 rk, .int .i64 rn] 24)).alloc (.cells #[.int .i64 0, .int .i64 0, .int .i64 0, .int .i64 0, .int .i64 0, .int .i64 0, .int .i64 0, .int .i64 0, .int .i64 0, .int .i64 0, .int .i64 0, .int .i64 0, .int .i64 0, .int .i64 0, .int .i64 0, .int .i64 0] 25)) (w.heap.size + 1 + 1) #[.int .i64 rk, .int .i64 rn] 24) := Lib.hid (by have h := (Blk.new ((w.alloc (.cells R 25)).alloc (.cells #[.int .i64 k, .int .i64 A, .int .i64 B, .int .i64 C] 28)) #[.int .i64 rk, .int .i64 rn] 24).keepn (g_alloc (g_refl (((w.alloc (.cells R 25)).alloc (.cells #[.int .i64 k, .int .i64 A, .int .i64 B, .int .i64 C] 28)).alloc (.cells #[.int .i64 rk, .int .i64 rn] 24)) none) (.cells #[.int .i64 0, .int .i64 0, .int .i64 0, .int .i64 0, .int .i64 0, .int .i64 0, .int .i64 0, .int .i64 0, .int .i64 0, .int .i64 0, .int .i64 0, .int .i64 0, .int .i64 0, .int .i64 0, .int .i64 0, .int .i64 0] 25)); simpa using h)
  have b3 : Hid (Blk ((((w.alloc (.cells R 25)).alloc (.cells #[.int .i64 k, .int .i64 A, .int .i64 B, .int .i64 C] 28)).alloc (.cells #[.int .i64 rk, .int .i64 rn] 24)).alloc (.cells #[.int .i64 0, .int .i64 0, .int .i64 0, .int .i64 0, .int .i64 0, .int .i64 0, .int .i64 0, .int .i64 0, .int .i64 0, .int .i64 0, .int .i64 0, .int .i64 0, .int .i64 0, .int .i64 0, .int .i64 0, .int .i64 0] 25)) (w.heap.size + 1 + 1 + 1) Z25 25) := Lib.hid (by have h := Blk.new (((w.alloc (.cells R 25)).alloc (.cells #[.int .i64 k, .int .i64 A, .int .i64 B, .int .i64 C] 28)).alloc (.cells #[.int .i64 rk, .int .i64 rn] 24)) #[.int .i64 0, .int .i64 0, .int .i64 0, .int .i64 0, .int .i64 0, .int .i64 0, .int .i64 0, .int .i64 0, .int .i64 0, .int .i64 0, .int .i64 0, .int .i64 0, .int .i64 0, .int .i64 0, .int .i64 0, .int .i64 0] 25; have h2 : Blk ((((w.alloc (.cells R 25)).alloc (.cells #[.int .i64 k, .int .i64 A, .int .i64 B, .int .i64 C] 28)).alloc (.cells #[.int .i64 rk, .int .i64 rn] 24)).alloc (.cells #[.int .i64 0, .int .i64 0, .int .i64 0, .int .i64 0, .int .i64 0, .int .i64 0, .int .i64 0, .int .i64 0, .int .i64 0, .int .i64 0, .int .i64 0, .int .i64 0, .int .i64 0, .int .i64 0, .int .i64 0, .int .i64 0] 25)) (w.heap.size + 1 + 1 + 1) #[.int .i64 0, .int .i64 0, .int .i64 0, .int .i64 0, .int .i64 0, .int .i64 0, .int .i64 0, .int .i64 0, .int .i64 0, .int .i64 0, .int .i64 0, .int .i64 0, .int .i64 0, .int .i64 0, .int .i64 0, .int .i64 0] 25 := (by simpa using h); exact h2)
  have bA := g_alloc (g_alloc (g_alloc (g_alloc (g_refl w none) (.cells R 25)) (.cells #[.int .i64 k, .int .i64 A, .int .i64 B, .int .i64 C] 28)) (.cells #[.int .i64 rk, .int .i64 rn] 24)) (.cells #[.int .i64 0, .int .i64 0, .int .i64 0, .int .i64 0, .int .i64 0, .int .i64 0, .int .i64 0, .int .i64 0, .int .i64 0, .int .i64 0, .int .i64 0, .int .i64 0, .int .i64 0, .int .i64 0, .int .i64 0, .int .i64 0] 25)
  go_enter Try.func8, Try.ntmps8
  go_wp2_with fail
  refine (hc _).mono ?_
  rintro e w1 ⟨rfl, g1⟩
  have c1 := Lib.hid (b1.out.keepn g1)
  have c1_0 := c1.out.cell 0 (.int .i64 k) rfl
  go_wp2_with fail
  refine (hl _).mono ?_
  rintro e w2 ⟨rfl, g2⟩
  have g12 := g_trans g1 g2
  have G12 := Lib.hid g12
  have d0 := Lib.hid (b0.out.keepn g12)
  have d1 := Lib.hid (b1.out.keepn g12)
  have d2 := Lib.hid (b2.out.keepn g12)
  have d3 := Lib.hid (b3.out.keepn g12)
  clear g1 g2 g12 c1_0
  have d1_0 := d1.out.cell 0 (.int .i64 k) rfl
  have d1_1 := d1.out.cell 1 (.int .i64 A) rfl
  have d1_2 := d1.out.cell 2 (.int .i64 B) rfl
  have d1_3 := d1.out.cell 3 (.int .i64 C) rfl
  have d2_0 := d2.out.cell 0 (.int .i64 rk) rfl
  have d2_1 := d2.out.cell 1 (.int .i64 rn) rfl
  go_wp2_with (first | (refine load25 rfl _ rfl (w.heap.size) rfl R hR d0.out ?_))
  refine (hm _).mono ?_
  rintro e w4 ⟨rfl, g4⟩
  have g5 := g_alloc (g_refl w4 none) (.cells #[.int .i64 p, .int .i64 s] 24)
  have G15 := Lib.hid (g_trans (g_trans G12.out g4) g5)
  have f0 := Lib.hid (b0.out.keepn G15.out)
  have f3 := Lib.hid (b3.out.keepn G15.out)
  have h4 := b1.out.keepn G15.out
  have d1_1 := h4.cell 1 (.int .i64 A) rfl
  have G4 := Lib.hid g4
  clear hm d1_0 d1_2 d1_3 d2_0 d2_1 h4 g4 g5
  go_wp2_with (first | (refine load25 rfl _ rfl (w.heap.size) rfl R hR f0.out ?_))
  refine (HP.out _).mono ?_
  rintro e w6 ⟨rfl, g6⟩
  have H3 := Lib.hid (f3.out.keepn g6)
  have G16 := Lib.hid (g_trans G15.out g6)
  clear d1_1 g6
  go_wp2_with (first | (refine store25 rfl _ _ rfl (w.heap.size + 1 + 1 + 1) rfl U rfl hU Z25 rfl H3.out ?_; intro w9 hb9 hg9))
  exact bodyPost_ret (resR3 Try.results8 _ _ _ U (.int .i64 (pc + 1)) (.int .i64 0) hU rfl rfl rfl hb9) rfl ⟨rfl, g_in (g_trans bA G16.out) hg9 (by omega)⟩
end Go.Proofs.Ytdfompfboopkpaa
