/- Registers at first; what is told. -/
import Derived.Test.YtdfompfboopkpaaI
namespace Go.Proofs.Ytdfompfboopkpaa
open Go.RowKit
set_option linter.unusedVariables false

theorem rK_nat (F : Nat → Int) (i : Nat) : rK F (i : Int) = F (i * 2) := by unfold rK; rw [Int.toNat_natCast]
theorem rN_nat (F : Nat → Int) (i : Nat) : rN F (i : Int) = F (i * 2 + 1) := by unfold rN; rw [Int.toNat_natCast]

set_option maxHeartbeats 1600000 in
theorem told_other (F : Nat → Int) (k A B C : Int) (hk : k ≠ 19) (w : World) : Calls Try.prog 14 #[.agg (rgv F), .agg #[.int .i64 k, .int .i64 A, .int .i64 B, .int .i64 C]] w fun e w' => e = .returned (.tuple #[.agg #[.int .i64 0, .int .i64 0], .bool false]) ∧ w.grownBy w' none := by
  have q : (k != 19) = true := by simp [hk]
  generalize rgv F = R at *
  go_enter Try.func14, Try.ntmps14
  go_wp2_with fail
  exact bodyPost_ret (v := .tuple #[.agg #[.int .i64 0, .int .i64 0], .bool false]) (by simp [results, Try.results14, go_sem]) rfl ⟨rfl, g_alloc (g_alloc (g_alloc (g_refl _ _) _) _) _⟩

set_option maxHeartbeats 1600000 in
theorem told_bad (F : Nat → Int) (x A B C : Int) (hx : x ≠ 0) (hc : ∀ w, Calls Try.prog 17 #[.agg #[.int .i64 19, .int .i64 A, .int .i64 B, .int .i64 C]] w fun e w' => e = .returned (.int .i64 x) ∧ w.grownBy w' none) (w : World) : Calls Try.prog 14 #[.agg (rgv F), .agg #[.int .i64 19, .int .i64 A, .int .i64 B, .int .i64 C]] w fun e w' => e = .returned (.tuple #[.agg #[.int .i64 0, .int .i64 0], .bool false]) ∧ w.grownBy w' none := by
  have q : (x != 0) = true := by simp [hx]
  generalize rgv F = R at *
  have b0 : Hid (Blk (((w.alloc (.cells R 25)).alloc (.cells #[.int .i64 19, .int .i64 A, .int .i64 B, .int .i64 C] 28)).alloc (.cells #[.int .i64 0, .int .i64 0] 24)) (w.heap.size) R 25) := Lib.hid (by have h := ((Blk.new w R 25).keepn (g_alloc (g_refl (w.alloc (.cells R 25)) none) (.cells #[.int .i64 19, .int .i64 A, .int .i64 B, .int .i64 C] 28))).keepn (g_alloc (g_refl ((w.alloc (.cells R 25)).alloc (.cells #[.int .i64 19, .int .i64 A, .int .i64 B, .int .i64 C] 28)) none) (.cells #[.int .i64 0, .int .i64 0] 24)); simpa using h)
  have b1 : Hid (Blk (((w.alloc (.cells R 25)).alloc (.cells #[.int .i64 19, .int .i64 A, .int .i64 B, .int .i64 C] 28)).alloc (.cells #[.int .i64 0, .int .i64 0] 24)) (w.heap.size + 1) #[.int .i64 19, .int .i64 A, .int .i64 B, .int .i64 C] 28) := Lib.hid (by have h := (Blk.new (w.alloc (.cells R 25)) #[.int .i64 19, .int .i64 A, .int .i64 B, .int .i64 C] 28).keepn (g_alloc (g_refl ((w.alloc (.cells R 25)).alloc (.cells #[.int .i64 19, .int .i64 A, .int .i64 B, .int .i64 C] 28)) none) (.cells #[.int .i64 0, .int .i64 0] 24)); simpa using h)
  have b2 : Hid (Blk (((w.alloc (.cells R 25)).alloc (.cells #[.int .i64 19, .int .i64 A, .int .i64 B, .int .i64 C] 28)).alloc (.cells #[.int .i64 0, .int .i64 0] 24)) (w.heap.size + 1 + 1) #[.int .i64 0, .int .i64 0] 24) := Lib.hid (by have h := Blk.new ((w.alloc (.cells R 25)).alloc (.cells #[.int .i64 19, .int .i64 A, .int .i64 B, .int .i64 C] 28)) #[.int .i64 0, .int .i64 0] 24; simpa using h)
  have bA := g_alloc (g_alloc (g_alloc (g_refl w none) (.cells R 25)) (.cells #[.int .i64 19, .int .i64 A, .int .i64 B, .int .i64 C] 28)) (.cells #[.int .i64 0, .int .i64 0] 24)
  go_enter Try.func14, Try.ntmps14
  go_wp2_with fail
  refine (hc _).mono ?_
  rintro e w1 ⟨rfl, g1⟩
  have d2 := Lib.hid (b2.out.keepn g1)
  have d2_0 := d2.out.cell 0 (.int .i64 0) rfl
  have d2_1 := d2.out.cell 1 (.int .i64 0) rfl
  have df2_0 := d2.out.free 0
  have df2_1 := d2.out.free 1
  go_wp2_with fail
  have rr := (d2.out.set 0 (.int .i64 0)).set 1 (.int .i64 0)
  have r0 := rr.cell 0 (.int .i64 0) rfl
  have r1 := rr.cell 1 (.int .i64 0) rfl
  have gE := g_set (g_set (g_refl w1 (some (w.heap.size + 1 + 1))) (p := ⟨w.heap.size + 1 + 1, 0, none⟩) (.inl rfl) (.int .i64 0)) (p := ⟨w.heap.size + 1 + 1, 1, none⟩) (.inl rfl) (.int .i64 0)
  exact bodyPost_ret (v := .tuple #[.agg #[.int .i64 0, .int .i64 0], .bool false]) (by simp [results, Try.results14, go_sem, r0, r1]) rfl ⟨rfl, g_in (g_trans bA g1) gE (by omega)⟩

set_option maxHeartbeats 1600000 in
theorem told_ok (F : Nat → Int) (A : Nat) (B C : Int) (hA : A < 8) (hc : ∀ w, Calls Try.prog 17 #[.agg #[.int .i64 19, .int .i64 A, .int .i64 B, .int .i64 C]] w fun e w' => e = .returned (.int .i64 0) ∧ w.grownBy w' none) (w : World) : Calls Try.prog 14 #[.agg (rgv F), .agg #[.int .i64 19, .int .i64 A, .int .i64 B, .int .i64 C]] w fun e w' => e = .returned (.tuple #[.agg #[.int .i64 (F (A * 2)), .int .i64 (F (A * 2 + 1))], .bool true]) ∧ w.grownBy w' none := by
  have hx : (rgv F)[A * 2]? = some (.int .i64 (F (A * 2))) := rgv_get F (by omega)
  have hy : (rgv F)[A * 2 + 1]? = some (.int .i64 (F (A * 2 + 1))) := rgv_get F (by omega)
  generalize rgv F = R at *
  generalize F (A * 2) = x at *
  generalize F (A * 2 + 1) = y at *
  have hi2 : (A : Int) < 8 := by omega
  have b0 : Hid (Blk (((w.alloc (.cells R 25)).alloc (.cells #[.int .i64 19, .int .i64 A, .int .i64 B, .int .i64 C] 28)).alloc (.cells #[.int .i64 0, .int .i64 0] 24)) (w.heap.size) R 25) := Lib.hid (by have h := ((Blk.new w R 25).keepn (g_alloc (g_refl (w.alloc (.cells R 25)) none) (.cells #[.int .i64 19, .int .i64 A, .int .i64 B, .int .i64 C] 28))).keepn (g_alloc (g_refl ((w.alloc (.cells R 25)).alloc (.cells #[.int .i64 19, .int .i64 A, .int .i64 B, .int .i64 C] 28)) none) (.cells #[.int .i64 0, .int .i64 0] 24)); simpa using h)
  have b1 : Hid (Blk (((w.alloc (.cells R 25)).alloc (.cells #[.int .i64 19, .int .i64 A, .int .i64 B, .int .i64 C] 28)).alloc (.cells #[.int .i64 0, .int .i64 0] 24)) (w.heap.size + 1) #[.int .i64 19, .int .i64 A, .int .i64 B, .int .i64 C] 28) := Lib.hid (by have h := (Blk.new (w.alloc (.cells R 25)) #[.int .i64 19, .int .i64 A, .int .i64 B, .int .i64 C] 28).keepn (g_alloc (g_refl ((w.alloc (.cells R 25)).alloc (.cells #[.int .i64 19, .int .i64 A, .int .i64 B, .int .i64 C] 28)) none) (.cells #[.int .i64 0, .int .i64 0] 24)); simpa using h)
  have b2 : Hid (Blk (((w.alloc (.cells R 25)).alloc (.cells #[.int .i64 19, .int .i64 A, .int .i64 B, .int .i64 C] 28)).alloc (.cells #[.int .i64 0, .int .i64 0] 24)) (w.heap.size + 1 + 1) #[.int .i64 0, .int .i64 0] 24) := Lib.hid (by have h := Blk.new ((w.alloc (.cells R 25)).alloc (.cells #[.int .i64 19, .int .i64 A, .int .i64 B, .int .i64 C] 28)) #[.int .i64 0, .int .i64 0] 24; simpa using h)
  have bA := g_alloc (g_alloc (g_alloc (g_refl w none) (.cells R 25)) (.cells #[.int .i64 19, .int .i64 A, .int .i64 B, .int .i64 C] 28)) (.cells #[.int .i64 0, .int .i64 0] 24)
  have HX := Lib.hid hx
  have HY := Lib.hid hy
  clear hx hy
  go_enter Try.func14, Try.ntmps14
  go_wp2_with fail
  refine (hc _).mono ?_
  rintro e w1 ⟨rfl, g1⟩
  have d1 := Lib.hid (b1.out.keepn g1)
  have d1_0 := d1.out.cell 0 (.int .i64 19) rfl
  have d1_1 := d1.out.cell 1 (.int .i64 A) rfl
  have d1_2 := d1.out.cell 2 (.int .i64 B) rfl
  have d1_3 := d1.out.cell 3 (.int .i64 C) rfl
  have df1_0 := d1.out.free 0
  have df1_1 := d1.out.free 1
  have df1_2 := d1.out.free 2
  have df1_3 := d1.out.free 3
  have d2 := Lib.hid (b2.out.keepn g1)
  have d2_0 := d2.out.cell 0 (.int .i64 0) rfl
  have d2_1 := d2.out.cell 1 (.int .i64 0) rfl
  have df2_0 := d2.out.free 0
  have df2_1 := d2.out.free 1
  have c0 := (b0.out.keepn g1).cell _ _ HX.out
  have c1 := (b0.out.keepn g1).cell _ _ HY.out
  go_wp2_with fail
  have rr := (d2.out.set 0 (.int .i64 x)).set 1 (.int .i64 y)
  have r0 := rr.cell 0 (.int .i64 x) rfl
  have r1 := rr.cell 1 (.int .i64 y) rfl
  have gE := g_set (g_set (g_refl w1 (some (w.heap.size + 1 + 1))) (p := ⟨w.heap.size + 1 + 1, 0, none⟩) (.inl rfl) (.int .i64 x)) (p := ⟨w.heap.size + 1 + 1, 1, none⟩) (.inl rfl) (.int .i64 y)
  exact bodyPost_ret (v := .tuple #[.agg #[.int .i64 x, .int .i64 y], .bool true]) (by simp [results, Try.results14, go_sem, r0, r1]) rfl ⟨rfl, g_in (g_trans bA g1) gE (by omega)⟩

set_option maxHeartbeats 1600000 in
theorem rtold_other (F : Nat → Int) (k A B C : Int) (hk : k ≠ 19) (w : World) : Calls Try.prog 15 #[.agg (rgv F), .agg #[.int .i64 k, .int .i64 A, .int .i64 B, .int .i64 C]] w fun e w' => e = .returned (.tuple #[.agg #[.int .i64 0, .int .i64 0], .bool false]) ∧ w.grownBy w' none := by
  have q : (k != 19) = true := by simp [hk]
  generalize rgv F = R at *
  go_enter Try.func15, Try.ntmps15
  go_wp2_with fail
  exact bodyPost_ret (v := .tuple #[.agg #[.int .i64 0, .int .i64 0], .bool false]) (by simp [results, Try.results15, go_sem]) rfl ⟨rfl, g_alloc (g_alloc (g_alloc (g_refl _ _) _) _) _⟩

set_option maxHeartbeats 1600000 in
theorem rtold_bad (F : Nat → Int) (x A B C : Int) (hx : x ≠ 0) (hc : ∀ w, Calls Try.prog 22 #[.agg #[.int .i64 19, .int .i64 A, .int .i64 B, .int .i64 C]] w fun e w' => e = .returned (.bool false) ∧ w.grownBy w' none) (w : World) : Calls Try.prog 15 #[.agg (rgv F), .agg #[.int .i64 19, .int .i64 A, .int .i64 B, .int .i64 C]] w fun e w' => e = .returned (.tuple #[.agg #[.int .i64 0, .int .i64 0], .bool false]) ∧ w.grownBy w' none := by
  have q : (x != 0) = true := by simp [hx]
  generalize rgv F = R at *
  have b0 : Hid (Blk (((w.alloc (.cells R 25)).alloc (.cells #[.int .i64 19, .int .i64 A, .int .i64 B, .int .i64 C] 28)).alloc (.cells #[.int .i64 0, .int .i64 0] 24)) (w.heap.size) R 25) := Lib.hid (by have h := ((Blk.new w R 25).keepn (g_alloc (g_refl (w.alloc (.cells R 25)) none) (.cells #[.int .i64 19, .int .i64 A, .int .i64 B, .int .i64 C] 28))).keepn (g_alloc (g_refl ((w.alloc (.cells R 25)).alloc (.cells #[.int .i64 19, .int .i64 A, .int .i64 B, .int .i64 C] 28)) none) (.cells #[.int .i64 0, .int .i64 0] 24)); simpa using h)
  have b1 : Hid (Blk (((w.alloc (.cells R 25)).alloc (.cells #[.int .i64 19, .int .i64 A, .int .i64 B, .int .i64 C] 28)).alloc (.cells #[.int .i64 0, .int .i64 0] 24)) (w.heap.size + 1) #[.int .i64 19, .int .i64 A, .int .i64 B, .int .i64 C] 28) := Lib.hid (by have h := (Blk.new (w.alloc (.cells R 25)) #[.int .i64 19, .int .i64 A, .int .i64 B, .int .i64 C] 28).keepn (g_alloc (g_refl ((w.alloc (.cells R 25)).alloc (.cells #[.int .i64 19, .int .i64 A, .int .i64 B, .int .i64 C] 28)) none) (.cells #[.int .i64 0, .int .i64 0] 24)); simpa using h)
  have b2 : Hid (Blk (((w.alloc (.cells R 25)).alloc (.cells #[.int .i64 19, .int .i64 A, .int .i64 B, .int .i64 C] 28)).alloc (.cells #[.int .i64 0, .int .i64 0] 24)) (w.heap.size + 1 + 1) #[.int .i64 0, .int .i64 0] 24) := Lib.hid (by have h := Blk.new ((w.alloc (.cells R 25)).alloc (.cells #[.int .i64 19, .int .i64 A, .int .i64 B, .int .i64 C] 28)) #[.int .i64 0, .int .i64 0] 24; simpa using h)
  have bA := g_alloc (g_alloc (g_alloc (g_refl w none) (.cells R 25)) (.cells #[.int .i64 19, .int .i64 A, .int .i64 B, .int .i64 C] 28)) (.cells #[.int .i64 0, .int .i64 0] 24)
  go_enter Try.func15, Try.ntmps15
  go_wp2_with fail
  refine (hc _).mono ?_
  rintro e w1 ⟨rfl, g1⟩
  have d2 := Lib.hid (b2.out.keepn g1)
  have d2_0 := d2.out.cell 0 (.int .i64 0) rfl
  have d2_1 := d2.out.cell 1 (.int .i64 0) rfl
  have df2_0 := d2.out.free 0
  have df2_1 := d2.out.free 1
  go_wp2_with fail
  have rr := (d2.out.set 0 (.int .i64 0)).set 1 (.int .i64 0)
  have r0 := rr.cell 0 (.int .i64 0) rfl
  have r1 := rr.cell 1 (.int .i64 0) rfl
  have gE := g_set (g_set (g_refl w1 (some (w.heap.size + 1 + 1))) (p := ⟨w.heap.size + 1 + 1, 0, none⟩) (.inl rfl) (.int .i64 0)) (p := ⟨w.heap.size + 1 + 1, 1, none⟩) (.inl rfl) (.int .i64 0)
  exact bodyPost_ret (v := .tuple #[.agg #[.int .i64 0, .int .i64 0], .bool false]) (by simp [results, Try.results15, go_sem, r0, r1]) rfl ⟨rfl, g_in (g_trans bA g1) gE (by omega)⟩

set_option maxHeartbeats 1600000 in
theorem rtold_ok (F : Nat → Int) (A : Nat) (B C : Int) (hA : A < 8) (hc : ∀ w, Calls Try.prog 22 #[.agg #[.int .i64 19, .int .i64 A, .int .i64 B, .int .i64 C]] w fun e w' => e = .returned (.bool true) ∧ w.grownBy w' none) (w : World) : Calls Try.prog 15 #[.agg (rgv F), .agg #[.int .i64 19, .int .i64 A, .int .i64 B, .int .i64 C]] w fun e w' => e = .returned (.tuple #[.agg #[.int .i64 (F (A * 2)), .int .i64 (F (A * 2 + 1))], .bool true]) ∧ w.grownBy w' none := by
  have hx : (rgv F)[A * 2]? = some (.int .i64 (F (A * 2))) := rgv_get F (by omega)
  have hy : (rgv F)[A * 2 + 1]? = some (.int .i64 (F (A * 2 + 1))) := rgv_get F (by omega)
  generalize rgv F = R at *
  generalize F (A * 2) = x at *
  generalize F (A * 2 + 1) = y at *
  have hi2 : (A : Int) < 8 := by omega
  have b0 : Hid (Blk (((w.alloc (.cells R 25)).alloc (.cells #[.int .i64 19, .int .i64 A, .int .i64 B, .int .i64 C] 28)).alloc (.cells #[.int .i64 0, .int .i64 0] 24)) (w.heap.size) R 25) := Lib.hid (by have h := ((Blk.new w R 25).keepn (g_alloc (g_refl (w.alloc (.cells R 25)) none) (.cells #[.int .i64 19, .int .i64 A, .int .i64 B, .int .i64 C] 28))).keepn (g_alloc (g_refl ((w.alloc (.cells R 25)).alloc (.cells #[.int .i64 19, .int .i64 A, .int .i64 B, .int .i64 C] 28)) none) (.cells #[.int .i64 0, .int .i64 0] 24)); simpa using h)
  have b1 : Hid (Blk (((w.alloc (.cells R 25)).alloc (.cells #[.int .i64 19, .int .i64 A, .int .i64 B, .int .i64 C] 28)).alloc (.cells #[.int .i64 0, .int .i64 0] 24)) (w.heap.size + 1) #[.int .i64 19, .int .i64 A, .int .i64 B, .int .i64 C] 28) := Lib.hid (by have h := (Blk.new (w.alloc (.cells R 25)) #[.int .i64 19, .int .i64 A, .int .i64 B, .int .i64 C] 28).keepn (g_alloc (g_refl ((w.alloc (.cells R 25)).alloc (.cells #[.int .i64 19, .int .i64 A, .int .i64 B, .int .i64 C] 28)) none) (.cells #[.int .i64 0, .int .i64 0] 24)); simpa using h)
  have b2 : Hid (Blk (((w.alloc (.cells R 25)).alloc (.cells #[.int .i64 19, .int .i64 A, .int .i64 B, .int .i64 C] 28)).alloc (.cells #[.int .i64 0, .int .i64 0] 24)) (w.heap.size + 1 + 1) #[.int .i64 0, .int .i64 0] 24) := Lib.hid (by have h := Blk.new ((w.alloc (.cells R 25)).alloc (.cells #[.int .i64 19, .int .i64 A, .int .i64 B, .int .i64 C] 28)) #[.int .i64 0, .int .i64 0] 24; simpa using h)
  have bA := g_alloc (g_alloc (g_alloc (g_refl w none) (.cells R 25)) (.cells #[.int .i64 19, .int .i64 A, .int .i64 B, .int .i64 C] 28)) (.cells #[.int .i64 0, .int .i64 0] 24)
  have HX := Lib.hid hx
  have HY := Lib.hid hy
  clear hx hy
  go_enter Try.func15, Try.ntmps15
  go_wp2_with fail
  refine (hc _).mono ?_
  rintro e w1 ⟨rfl, g1⟩
  have d1 := Lib.hid (b1.out.keepn g1)
  have d1_0 := d1.out.cell 0 (.int .i64 19) rfl
  have d1_1 := d1.out.cell 1 (.int .i64 A) rfl
  have d1_2 := d1.out.cell 2 (.int .i64 B) rfl
  have d1_3 := d1.out.cell 3 (.int .i64 C) rfl
  have df1_0 := d1.out.free 0
  have df1_1 := d1.out.free 1
  have df1_2 := d1.out.free 2
  have df1_3 := d1.out.free 3
  have d2 := Lib.hid (b2.out.keepn g1)
  have d2_0 := d2.out.cell 0 (.int .i64 0) rfl
  have d2_1 := d2.out.cell 1 (.int .i64 0) rfl
  have df2_0 := d2.out.free 0
  have df2_1 := d2.out.free 1
  have c0 := (b0.out.keepn g1).cell _ _ HX.out
  have c1 := (b0.out.keepn g1).cell _ _ HY.out
  go_wp2_with fail
  have rr := (d2.out.set 0 (.int .i64 x)).set 1 (.int .i64 y)
  have r0 := rr.cell 0 (.int .i64 x) rfl
  have r1 := rr.cell 1 (.int .i64 y) rfl
  have gE := g_set (g_set (g_refl w1 (some (w.heap.size + 1 + 1))) (p := ⟨w.heap.size + 1 + 1, 0, none⟩) (.inl rfl) (.int .i64 x)) (p := ⟨w.heap.size + 1 + 1, 1, none⟩) (.inl rfl) (.int .i64 y)
  exact bodyPost_ret (v := .tuple #[.agg #[.int .i64 x, .int .i64 y], .bool true]) (by simp [results, Try.results15, go_sem, r0, r1]) rfl ⟨rfl, g_in (g_trans bA g1) gE (by omega)⟩

def startF : Nat → Int := fun j => if j % 2 = 0 then 1 else 0
/-- the first i registers are numbers -/
def startTo (i : Nat) : Nat → Int := fun j => if j < i * 2 then startF j else 0
theorem startTo_succ (i : Nat) {j : Nat} : startTo (i + 1) j = upd (startTo i) i 1 0 j := by
  unfold startTo upd startF
  dsimp only
  repeat' split
  all_goals omega

set_option maxHeartbeats 1600000 in
theorem start_any (w : World) : Calls Try.prog 12 #[] w fun e w' => e = .returned (.agg (rgv startF)) ∧ w.grownBy w' none := by
  have hR := rg_rgv startF
  have h8 : rgv (startTo 8) = rgv startF := rgv_congr (fun i hi => by unfold startTo; rw [if_pos (by omega)])
  generalize rgv startF = R at *
  have H8 := Lib.hid h8
  clear h8
  have b0 : Hid (Blk ((w.alloc (.cells #[.int .i64 0, .int .i64 0, .int .i64 0, .int .i64 0, .int .i64 0, .int .i64 0, .int .i64 0, .int .i64 0, .int .i64 0, .int .i64 0, .int .i64 0, .int .i64 0, .int .i64 0, .int .i64 0, .int .i64 0, .int .i64 0] 25)).alloc (.cells #[.int .i64 0, .int .i64 0, .int .i64 0, .int .i64 0, .int .i64 0, .int .i64 0, .int .i64 0, .int .i64 0, .int .i64 0, .int .i64 0, .int .i64 0, .int .i64 0, .int .i64 0, .int .i64 0, .int .i64 0, .int .i64 0] 25)) (w.heap.size) Z25 25) := Lib.hid (by have h := (Blk.new w #[.int .i64 0, .int .i64 0, .int .i64 0, .int .i64 0, .int .i64 0, .int .i64 0, .int .i64 0, .int .i64 0, .int .i64 0, .int .i64 0, .int .i64 0, .int .i64 0, .int .i64 0, .int .i64 0, .int .i64 0, .int .i64 0] 25).keepn (g_alloc (g_refl (w.alloc (.cells #[.int .i64 0, .int .i64 0, .int .i64 0, .int .i64 0, .int .i64 0, .int .i64 0, .int .i64 0, .int .i64 0, .int .i64 0, .int .i64 0, .int .i64 0, .int .i64 0, .int .i64 0, .int .i64 0, .int .i64 0, .int .i64 0] 25)) none) (.cells #[.int .i64 0, .int .i64 0, .int .i64 0, .int .i64 0, .int .i64 0, .int .i64 0, .int .i64 0, .int .i64 0, .int .i64 0, .int .i64 0, .int .i64 0, .int .i64 0, .int .i64 0, .int .i64 0, .int .i64 0, .int .i64 0] 25)); have h2 : Blk ((w.alloc (.cells #[.int .i64 0, .int .i64 0, .int .i64 0, .int .i64 0, .int .i64 0, .int .i64 0, .int .i64 0, .int .i64 0, .int .i64 0, .int .i64 0, .int .i64 0, .int .i64 0, .int .i64 0, .int .i64 0, .int .i64 0, .int .i64 0] 25)).alloc (.cells #[.int .i64 0, .int .i64 0, .int .i64 0, .int .i64 0, .int .i64 0, .int .i64 0, .int .i64 0, .int .i64 0, .int .i64 0, .int .i64 0, .int .i64 0, .int .i64 0, .int .i64 0, .int .i64 0, .int .i64 0, .int .i64 0] 25)) (w.heap.size) #[.int .i64 0, .int .i64 0, .int .i64 0, .int .i64 0, .int .i64 0, .int .i64 0, .int .i64 0, .int .i64 0, .int .i64 0, .int .i64 0, .int .i64 0, .int .i64 0, .int .i64 0, .int .i64 0, .int .i64 0, .int .i64 0] 25 := (by simpa using h); exact h2)
  have b1 : Hid (Blk ((w.alloc (.cells #[.int .i64 0, .int .i64 0, .int .i64 0, .int .i64 0, .int .i64 0, .int .i64 0, .int .i64 0, .int .i64 0, .int .i64 0, .int .i64 0, .int .i64 0, .int .i64 0, .int .i64 0, .int .i64 0, .int .i64 0, .int .i64 0] 25)).alloc (.cells #[.int .i64 0, .int .i64 0, .int .i64 0, .int .i64 0, .int .i64 0, .int .i64 0, .int .i64 0, .int .i64 0, .int .i64 0, .int .i64 0, .int .i64 0, .int .i64 0, .int .i64 0, .int .i64 0, .int .i64 0, .int .i64 0] 25)) (w.heap.size + 1) Z25 25) := Lib.hid (by have h := Blk.new (w.alloc (.cells #[.int .i64 0, .int .i64 0, .int .i64 0, .int .i64 0, .int .i64 0, .int .i64 0, .int .i64 0, .int .i64 0, .int .i64 0, .int .i64 0, .int .i64 0, .int .i64 0, .int .i64 0, .int .i64 0, .int .i64 0, .int .i64 0] 25)) #[.int .i64 0, .int .i64 0, .int .i64 0, .int .i64 0, .int .i64 0, .int .i64 0, .int .i64 0, .int .i64 0, .int .i64 0, .int .i64 0, .int .i64 0, .int .i64 0, .int .i64 0, .int .i64 0, .int .i64 0, .int .i64 0] 25; have h2 : Blk ((w.alloc (.cells #[.int .i64 0, .int .i64 0, .int .i64 0, .int .i64 0, .int .i64 0, .int .i64 0, .int .i64 0, .int .i64 0, .int .i64 0, .int .i64 0, .int .i64 0, .int .i64 0, .int .i64 0, .int .i64 0, .int .i64 0, .int .i64 0] 25)).alloc (.cells #[.int .i64 0, .int .i64 0, .int .i64 0, .int .i64 0, .int .i64 0, .int .i64 0, .int .i64 0, .int .i64 0, .int .i64 0, .int .i64 0, .int .i64 0, .int .i64 0, .int .i64 0, .int .i64 0, .int .i64 0, .int .i64 0] 25)) (w.heap.size + 1) #[.int .i64 0, .int .i64 0, .int .i64 0, .int .i64 0, .int .i64 0, .int .i64 0, .int .i64 0, .int .i64 0, .int .i64 0, .int .i64 0, .int .i64 0, .int .i64 0, .int .i64 0, .int .i64 0, .int .i64 0, .int .i64 0] 25 := (by simpa using h); exact h2)
  have bA := g_alloc (g_alloc (g_refl w none) (.cells #[.int .i64 0, .int .i64 0, .int .i64 0, .int .i64 0, .int .i64 0, .int .i64 0, .int .i64 0, .int .i64 0, .int .i64 0, .int .i64 0, .int .i64 0, .int .i64 0, .int .i64 0, .int .i64 0, .int .i64 0, .int .i64 0] 25)) (.cells #[.int .i64 0, .int .i64 0, .int .i64 0, .int .i64 0, .int .i64 0, .int .i64 0, .int .i64 0, .int .i64 0, .int .i64 0, .int .i64 0, .int .i64 0, .int .i64 0, .int .i64 0, .int .i64 0, .int .i64 0, .int .i64 0] 25)
  go_enter Try.func12, Try.ntmps12
  go_wp2_with fail
  generalize ((w.alloc (.cells #[.int .i64 0, .int .i64 0, .int .i64 0, .int .i64 0, .int .i64 0, .int .i64 0, .int .i64 0, .int .i64 0, .int .i64 0, .int .i64 0, .int .i64 0, .int .i64 0, .int .i64 0, .int .i64 0, .int .i64 0, .int .i64 0] 25)).alloc (.cells #[.int .i64 0, .int .i64 0, .int .i64 0, .int .i64 0, .int .i64 0, .int .i64 0, .int .i64 0, .int .i64 0, .int .i64 0, .int .i64 0, .int .i64 0, .int .i64 0, .int .i64 0, .int .i64 0, .int .i64 0, .int .i64 0] 25)) = W2 at *
  go_loopw [3] (fun i wr => ∃ j : Nat, j ≤ 8 ∧ i = .int .i64 j ∧ W2.grownBy wr (some (w.heap.size + 1)) ∧ Blk wr (w.heap.size + 1) (rgv (startTo j)) 25) (fun i _ => (10 - intOf i).toNat)
  case atStart => exact ⟨0, by omega, rfl, g_refl _ _, by have h := b1.out; have e : Z25 = rgv (startTo 0) := rgv_congr (fun i _ => by simp [startTo]); rw [e] at h; exact h⟩
  case round =>
    obtain ⟨j, hj, rfl, hgr, hbr⟩ := hrel
    by_cases hlt : j < 8
    · have hs := rgv_set (startTo j) hlt 1 0
      have e9 : rgv (upd (startTo j) j 1 0) = rgv (startTo (j + 1)) := rgv_congr (fun i _ => (startTo_succ j).symm)
      rw [e9] at hs
      have hx : (rgv (startTo j))[j * 2]? = some (.int .i64 (startTo j (j * 2))) := rgv_get _ (by omega)
      have hy : (rgv (startTo j))[j * 2 + 1]? = some (.int .i64 (startTo j (j * 2 + 1))) := rgv_get _ (by omega)
      generalize startTo j (j * 2) = x at *
      generalize startTo j (j * 2 + 1) = y at *
      have HS := Lib.hid hs
      have HX := Lib.hid hx
      have HY := Lib.hid hy
      have HB := Lib.hid hbr
      have HG := Lib.hid hgr
      have hjb : (j : Int) < 8 := by omega
      clear e9 hs hx hy hbr hgr
      go_wp2_with fail
      refine (num_any _ _).mono ?_
      rintro e w1 ⟨rfl, g1⟩
      have hB1 := HB.out.keepn g1
      have c0 := hB1.cell _ _ HX.out
      have c1 := hB1.cell _ _ HY.out
      have f0 := hB1.free (j * 2)
      have f1 := hB1.free (j * 2 + 1)
      have hBu := (hB1.set (j * 2) (.int .i64 1)).set (j * 2 + 1) (.int .i64 0)
      have HBU := Lib.hid hBu
      have GU := Lib.hid (g_set (g_set (g_then HG.out g1) (p := ⟨w.heap.size + 1, j * 2, none⟩) (.inl rfl) (.int .i64 1)) (p := ⟨w.heap.size + 1, j * 2 + 1, none⟩) (.inl rfl) (.int .i64 0))
      clear hB1 hBu
      go_wp2_with fail
      go_roundw
      case rel => exact ⟨j + 1, by omega, by go_num, GU.out, HS.out ▸ HBU.out⟩
      case measure => simp [intOf]; omega
    · obtain rfl : j = 8 := by omega
      rw [H8.out] at hbr
      have HB := Lib.hid hbr
      have HG := Lib.hid hgr
      have H0 := Lib.hid (b0.out.keeps hgr (by omega))
      clear hbr hgr
      go_wp2_with (first | (refine load25 rfl _ rfl (w.heap.size + 1) rfl R hR HB.out ?_) | (refine store25 rfl _ _ rfl (w.heap.size) rfl R rfl hR Z25 rfl H0.out ?_; intro w9 hb9 hg9))
      exact bodyPost_ret (resR Try.results12 _ _ _ R hR rfl hb9) rfl ⟨rfl, g_in (g_in bA HG.out (by omega)) hg9 (by omega)⟩

set_option maxHeartbeats 1600000 in
theorem rstart_any (w : World) : Calls Try.prog 13 #[] w fun e w' => e = .returned (.agg (rgv startF)) ∧ w.grownBy w' none := by
  have hR := rg_rgv startF
  have h8 : rgv (startTo 8) = rgv startF := rgv_congr (fun i hi => by unfold startTo; rw [if_pos (by omega)])
  generalize rgv startF = R at *
  have H8 := Lib.hid h8
  clear h8
  have b0 : Hid (Blk ((w.alloc (.cells #[.int .i64 0, .int .i64 0, .int .i64 0, .int .i64 0, .int .i64 0, .int .i64 0, .int .i64 0, .int .i64 0, .int .i64 0, .int .i64 0, .int .i64 0, .int .i64 0, .int .i64 0, .int .i64 0, .int .i64 0, .int .i64 0] 25)).alloc (.cells #[.int .i64 0, .int .i64 0, .int .i64 0, .int .i64 0, .int .i64 0, .int .i64 0, .int .i64 0, .int .i64 0, .int .i64 0, .int .i64 0, .int .i64 0, .int .i64 0, .int .i64 0, .int .i64 0, .int .i64 0, .int .i64 0] 25)) (w.heap.size) Z25 25) := Lib.hid (by have h := (Blk.new w #[.int .i64 0, .int .i64 0, .int .i64 0, .int .i64 0, .int .i64 0, .int .i64 0, .int .i64 0, .int .i64 0, .int .i64 0, .int .i64 0, .int .i64 0, .int .i64 0, .int .i64 0, .int .i64 0, .int .i64 0, .int .i64 0] 25).keepn (g_alloc (g_refl (w.alloc (.cells #[.int .i64 0, .int .i64 0, .int .i64 0, .int .i64 0, .int .i64 0, .int .i64 0, .int .i64 0, .int .i64 0, .int .i64 0, .int .i64 0, .int .i64 0, .int .i64 0, .int .i64 0, .int .i64 0, .int .i64 0, .int .i64 0] 25)) none) (.cells #[.int .i64 0, .int .i64 0, .int .i64 0, .int .i64 0, .int .i64 0, .int .i64 0, .int .i64 0, .int .i64 0, .int .i64 0, .int .i64 0, .int .i64 0, .int .i64 0, .int .i64 0, .int .i64 0, .int .i64 0, .int .i64 0] 25)); have h2 : Blk ((w.alloc (.cells #[.int .i64 0, .int .i64 0, .int .i64 0, .int .i64 0, .int .i64 0, .int .i64 0, .int .i64 0, .int .i64 0, .int .i64 0, .int .i64 0, .int .i64 0, .int .i64 0, .int .i64 0, .int .i64 0, .int .i64 0, .int .i64 0] 25)).alloc (.cells #[.int .i64 0, .int .i64 0, .int .i64 0, .int .i64 0, .int .i64 0, .int .i64 0, .int .i64 0, .int .i64 0, .int .i64 0, .int .i64 0, .int .i64 0, .int .i64 0, .int .i64 0, .int .i64 0, .int .i64 0, .int .i64 0] 25)) (w.heap.size) #[.int .i64 0, .int .i64 0, .int .i64 0, .int .i64 0, .int .i64 0, .int .i64 0, .int .i64 0, .int .i64 0, .int .i64 0, .int .i64 0, .int .i64 0, .int .i64 0, .int .i64 0, .int .i64 0, .int .i64 0, .int .i64 0] 25 := (by simpa using h); exact h2)
  have b1 : Hid (Blk ((w.alloc (.cells #[.int .i64 0, .int .i64 0, .int .i64 0, .int .i64 0, .int .i64 0, .int .i64 0, .int .i64 0, .int .i64 0, .int .i64 0, .int .i64 0, .int .i64 0, .int .i64 0, .int .i64 0, .int .i64 0, .int .i64 0, .int .i64 0] 25)).alloc (.cells #[.int .i64 0, .int .i64 0, .int .i64 0, .int .i64 0, .int .i64 0, .int .i64 0, .int .i64 0, .int .i64 0, .int .i64 0, .int .i64 0, .int .i64 0, .int .i64 0, .int .i64 0, .int .i64 0, .int .i64 0, .int .i64 0] 25)) (w.heap.size + 1) Z25 25) := Lib.hid (by have h := Blk.new (w.alloc (.cells #[.int .i64 0, .int .i64 0, .int .i64 0, .int .i64 0, .int .i64 0, .int .i64 0, .int .i64 0, .int .i64 0, .int .i64 0, .int .i64 0, .int .i64 0, .int .i64 0, .int .i64 0, .int .i64 0, .int .i64 0, .int .i64 0] 25)) #[.int .i64 0, .int .i64 0, .int .i64 0, .int .i64 0, .int .i64 0, .int .i64 0, .int .i64 0, .int .i64 0, .int .i64 0, .int .i64 0, .int .i64 0, .int .i64 0, .int .i64 0, .int .i64 0, .int .i64 0, .int .i64 0] 25; have h2 : Blk ((w.alloc (.cells #[.int .i64 0, .int .i64 0, .int .i64 0, .int .i64 0, .int .i64 0, .int .i64 0, .int .i64 0, .int .i64 0, .int .i64 0, .int .i64 0, .int .i64 0, .int .i64 0, .int .i64 0, .int .i64 0, .int .i64 0, .int .i64 0] 25)).alloc (.cells #[.int .i64 0, .int .i64 0, .int .i64 0, .int .i64 0, .int .i64 0, .int .i64 0, .int .i64 0, .int .i64 0, .int .i64 0, .int .i64 0, .int .i64 0, .int .i64 0, .int .i64 0, .int .i64 0, .int .i64 0, .int .i64 0] 25)) (w.heap.size + 1) #[.int .i64 0, .int .i64 0, .int .i64 0, .int .i64 0, .int .i64 0, .int .i64 0, .int .i64 0, .int .i64 0, .int .i64 0, .int .i64 0, .int .i64 0, .int .i64 0, .int .i64 0, .int .i64 0, .int .i64 0, .int .i64 0] 25 := (by simpa using h); exact h2)
  have bA := g_alloc (g_alloc (g_refl w none) (.cells #[.int .i64 0, .int .i64 0, .int .i64 0, .int .i64 0, .int .i64 0, .int .i64 0, .int .i64 0, .int .i64 0, .int .i64 0, .int .i64 0, .int .i64 0, .int .i64 0, .int .i64 0, .int .i64 0, .int .i64 0, .int .i64 0] 25)) (.cells #[.int .i64 0, .int .i64 0, .int .i64 0, .int .i64 0, .int .i64 0, .int .i64 0, .int .i64 0, .int .i64 0, .int .i64 0, .int .i64 0, .int .i64 0, .int .i64 0, .int .i64 0, .int .i64 0, .int .i64 0, .int .i64 0] 25)
  go_enter Try.func13, Try.ntmps13
  go_wp2_with fail
  generalize ((w.alloc (.cells #[.int .i64 0, .int .i64 0, .int .i64 0, .int .i64 0, .int .i64 0, .int .i64 0, .int .i64 0, .int .i64 0, .int .i64 0, .int .i64 0, .int .i64 0, .int .i64 0, .int .i64 0, .int .i64 0, .int .i64 0, .int .i64 0] 25)).alloc (.cells #[.int .i64 0, .int .i64 0, .int .i64 0, .int .i64 0, .int .i64 0, .int .i64 0, .int .i64 0, .int .i64 0, .int .i64 0, .int .i64 0, .int .i64 0, .int .i64 0, .int .i64 0, .int .i64 0, .int .i64 0, .int .i64 0] 25)) = W2 at *
  go_loopw [2] (fun i wr => ∃ j : Nat, j ≤ 8 ∧ i = .int .i64 j ∧ W2.grownBy wr (some (w.heap.size + 1)) ∧ Blk wr (w.heap.size + 1) (rgv (startTo j)) 25) (fun i _ => (10 - intOf i).toNat)
  case atStart => exact ⟨0, by omega, rfl, g_refl _ _, by have h := b1.out; have e : Z25 = rgv (startTo 0) := rgv_congr (fun i _ => by simp [startTo]); rw [e] at h; exact h⟩
  case round =>
    obtain ⟨j, hj, rfl, hgr, hbr⟩ := hrel
    by_cases hlt : j < 8
    · have hs := rgv_set (startTo j) hlt 1 0
      have e9 : rgv (upd (startTo j) j 1 0) = rgv (startTo (j + 1)) := rgv_congr (fun i _ => (startTo_succ j).symm)
      rw [e9] at hs
      have hx : (rgv (startTo j))[j * 2]? = some (.int .i64 (startTo j (j * 2))) := rgv_get _ (by omega)
      have hy : (rgv (startTo j))[j * 2 + 1]? = some (.int .i64 (startTo j (j * 2 + 1))) := rgv_get _ (by omega)
      generalize startTo j (j * 2) = x at *
      generalize startTo j (j * 2 + 1) = y at *
      have HS := Lib.hid hs
      have HX := Lib.hid hx
      have HY := Lib.hid hy
      have HB := Lib.hid hbr
      have HG := Lib.hid hgr
      have hjb : (j : Int) < 8 := by omega
      clear e9 hs hx hy hbr hgr
      go_wp2_with fail
      refine (rnum_any _ _).mono ?_
      rintro e w1 ⟨rfl, g1⟩
      have hB1 := HB.out.keepn g1
      have c0 := hB1.cell _ _ HX.out
      have c1 := hB1.cell _ _ HY.out
      have f0 := hB1.free (j * 2)
      have f1 := hB1.free (j * 2 + 1)
      have hBu := (hB1.set (j * 2) (.int .i64 1)).set (j * 2 + 1) (.int .i64 0)
      have HBU := Lib.hid hBu
      have GU := Lib.hid (g_set (g_set (g_then HG.out g1) (p := ⟨w.heap.size + 1, j * 2, none⟩) (.inl rfl) (.int .i64 1)) (p := ⟨w.heap.size + 1, j * 2 + 1, none⟩) (.inl rfl) (.int .i64 0))
      clear hB1 hBu
      go_wp2_with fail
      go_roundw
      case rel => exact ⟨j + 1, by omega, by go_num, GU.out, HS.out ▸ HBU.out⟩
      case measure => simp [intOf]; omega
    · obtain rfl : j = 8 := by omega
      rw [H8.out] at hbr
      have HB := Lib.hid hbr
      have HG := Lib.hid hgr
      have H0 := Lib.hid (b0.out.keeps hgr (by omega))
      clear hbr hgr
      go_wp2_with (first | (refine load25 rfl _ rfl (w.heap.size + 1) rfl R hR HB.out ?_) | (refine store25 rfl _ _ rfl (w.heap.size) rfl R rfl hR Z25 rfl H0.out ?_; intro w9 hb9 hg9))
      exact bodyPost_ret (resR Try.results13 _ _ _ R hR rfl hb9) rfl ⟨rfl, g_in (g_in bA HG.out (by omega)) hg9 (by omega)⟩
end Go.Proofs.Ytdfompfboopkpaa
