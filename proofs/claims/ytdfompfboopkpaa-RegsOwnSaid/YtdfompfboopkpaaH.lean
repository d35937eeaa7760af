/- What register A becomes. -/
import Derived.Test.YtdfompfboopkpaaG
import Derived.Deep.RegionHeld3
namespace Go.Proofs.Ytdfompfboopkpaa
open Go.RowKit
set_option linter.unusedVariables false

def mK (k : Int) (F : Nat → Int) (B C rk : Int) : Int :=
  if k = 1 then 1 else if k = 2 then 2 else if k = 3 then rK F B else if k = 4 ∨ k = 5 ∨ k = 6 then nK (rK F B) (rK F C) else if k = 7 then 1 else rk
def mN (k : Int) (F : Nat → Int) (B C rn : Int) : Int :=
  if k = 1 then B else if k = 2 then 0 else if k = 3 then rN F B else if k = 4 then nN (rK F B) (rK F C) (wrap64 (rN F B + rN F C)) else if k = 5 then nN (rK F B) (rK F C) (wrap64 (rN F B - rN F C))
  else if k = 6 then nN (rK F B) (rK F C) (oneI (decide (rN F B < rN F C))) else if k = 7 then oneI (sameB (rK F B) (rN F B) (rK F C) (rN F C)) else rn
def mE (k : Int) (F : Nat → Int) (B C : Int) : Int := if k = 4 ∨ k = 5 ∨ k = 6 then nE (rK F B) (rK F C) else 0

set_option maxHeartbeats 1600000 in
theorem made_1 (F : Nat → Int) (A rk rn : Int) (B : Int) (C : Int) (w : World) : Calls Try.prog 21 #[.agg (rgv F), .agg #[.int .i64 1, .int .i64 A, .int .i64 B, .int .i64 C], .agg #[.int .i64 rk, .int .i64 rn]] w fun e w' => e = .returned (.tuple #[.agg #[.int .i64 (mK 1 F B C rk), .int .i64 (mN 1 F B C rn)], .int .i64 (mE 1 F B C)]) ∧ w.grownBy w' none := by
  have eK : mK 1 F B C rk = 1 := rfl
  have eN : mN 1 F B C rn = B := rfl
  have eE : mE 1 F B C = 0 := rfl
  rw [eK, eN, eE]
  clear eK eN eE
  have hR := rgv_size F
  generalize rgv F = R at *
  have b0 : Hid (Blk ((((w.alloc (.cells R 25)).alloc (.cells #[.int .i64 1, .int .i64 A, .int .i64 B, .int .i64 C] 28)).alloc (.cells #[.int .i64 rk, .int .i64 rn] 24)).alloc (.cells #[.int .i64 0, .int .i64 0] 24)) (w.heap.size) R 25) := Lib.hid (by have h := (((Blk.new w R 25).keepn (g_alloc (g_refl (w.alloc (.cells R 25)) none) (.cells #[.int .i64 1, .int .i64 A, .int .i64 B, .int .i64 C] 28))).keepn (g_alloc (g_refl ((w.alloc (.cells R 25)).alloc (.cells #[.int .i64 1, .int .i64 A, .int .i64 B, .int .i64 C] 28)) none) (.cells #[.int .i64 rk, .int .i64 rn] 24))).keepn (g_alloc (g_refl (((w.alloc (.cells R 25)).alloc (.cells #[.int .i64 1, .int .i64 A, .int .i64 B, .int .i64 C] 28)).alloc (.cells #[.int .i64 rk, .int .i64 rn] 24)) none) (.cells #[.int .i64 0, .int .i64 0] 24)); simpa using h)
  have b1 : Hid (Blk ((((w.alloc (.cells R 25)).alloc (.cells #[.int .i64 1, .int .i64 A, .int .i64 B, .int .i64 C] 28)).alloc (.cells #[.int .i64 rk, .int .i64 rn] 24)).alloc (.cells #[.int .i64 0, .int .i64 0] 24)) (w.heap.size + 1) #[.int .i64 1, .int .i64 A, .int .i64 B, .int .i64 C] 28) := Lib.hid (by have h := ((Blk.new (w.alloc (.cells R 25)) #[.int .i64 1, .int .i64 A, .int .i64 B, .int .i64 C] 28).keepn (g_alloc (g_refl ((w.alloc (.cells R 25)).alloc (.cells #[.int .i64 1, .int .i64 A, .int .i64 B, .int .i64 C] 28)) none) (.cells #[.int .i64 rk, .int .i64 rn] 24))).keepn (g_alloc (g_refl (((w.alloc (.cells R 25)).alloc (.cells #[.int .i64 1, .int .i64 A, .int .i64 B, .int .i64 C] 28)).alloc (.cells #[.int .i64 rk, .int .i64 rn] 24)) none) (.cells #[.int .i64 0, .int .i64 0] 24)); simpa using h)
  have b2 : Hid (Blk ((((w.alloc (.cells R 25)).alloc (.cells #[.int .i64 1, .int .i64 A, .int .i64 B, .int .i64 C] 28)).alloc (.cells #[.int .i64 rk, .int .i64 rn] 24)).alloc (.cells #[.int .i64 0, .int .i64 0] 24)) (w.heap.size + 1 + 1) #[.int .i64 rk, .int .i64 rn] 24) := Lib.hid (by have h := (Blk.new ((w.alloc (.cells R 25)).alloc (.cells #[.int .i64 1, .int .i64 A, .int .i64 B, .int .i64 C] 28)) #[.int .i64 rk, .int .i64 rn] 24).keepn (g_alloc (g_refl (((w.alloc (.cells R 25)).alloc (.cells #[.int .i64 1, .int .i64 A, .int .i64 B, .int .i64 C] 28)).alloc (.cells #[.int .i64 rk, .int .i64 rn] 24)) none) (.cells #[.int .i64 0, .int .i64 0] 24)); simpa using h)
  have b3 : Hid (Blk ((((w.alloc (.cells R 25)).alloc (.cells #[.int .i64 1, .int .i64 A, .int .i64 B, .int .i64 C] 28)).alloc (.cells #[.int .i64 rk, .int .i64 rn] 24)).alloc (.cells #[.int .i64 0, .int .i64 0] 24)) (w.heap.size + 1 + 1 + 1) #[.int .i64 0, .int .i64 0] 24) := Lib.hid (by have h := Blk.new (((w.alloc (.cells R 25)).alloc (.cells #[.int .i64 1, .int .i64 A, .int .i64 B, .int .i64 C] 28)).alloc (.cells #[.int .i64 rk, .int .i64 rn] 24)) #[.int .i64 0, .int .i64 0] 24; simpa using h)
  have bA := g_alloc (g_alloc (g_alloc (g_alloc (g_refl w none) (.cells R 25)) (.cells #[.int .i64 1, .int .i64 A, .int .i64 B, .int .i64 C] 28)) (.cells #[.int .i64 rk, .int .i64 rn] 24)) (.cells #[.int .i64 0, .int .i64 0] 24)
  have hc := num_any B
  go_enter Try.func21, Try.ntmps21
  go_wp2_with fail
  refine (hc _).mono ?_
  rintro e w1 ⟨rfl, g1⟩
  clear hc
  have d3 := Lib.hid (b3.out.keepn g1)
  have d3_0 := d3.out.cell 0 (.int .i64 0) rfl
  have d3_1 := d3.out.cell 1 (.int .i64 0) rfl
  have df3_0 := d3.out.free 0
  have df3_1 := d3.out.free 1
  go_wp2_with fail
  have rr := (d3.out.set 0 (.int .i64 (1))).set 1 (.int .i64 (B))
  have r0 := rr.cell 0 (.int .i64 (1)) rfl
  have r1 := rr.cell 1 (.int .i64 (B)) rfl
  exact bodyPost_ret (v := .tuple #[.agg #[.int .i64 (1), .int .i64 (B)], .int .i64 (0)]) (by simp [results, Try.results21, go_sem, r0, r1]) rfl ⟨rfl, g_in (g_trans bA g1) (g_set (g_set (g_refl w1 (some (w.heap.size + 1 + 1 + 1))) (p := ⟨w.heap.size + 1 + 1 + 1, 0, none⟩) (.inl rfl) _) (p := ⟨w.heap.size + 1 + 1 + 1, 1, none⟩) (.inl rfl) _) (by omega)⟩

set_option maxHeartbeats 1600000 in
theorem made_2 (F : Nat → Int) (A rk rn : Int) (B : Int) (C : Int) (w : World) : Calls Try.prog 21 #[.agg (rgv F), .agg #[.int .i64 2, .int .i64 A, .int .i64 B, .int .i64 C], .agg #[.int .i64 rk, .int .i64 rn]] w fun e w' => e = .returned (.tuple #[.agg #[.int .i64 (mK 2 F B C rk), .int .i64 (mN 2 F B C rn)], .int .i64 (mE 2 F B C)]) ∧ w.grownBy w' none := by
  have eK : mK 2 F B C rk = 2 := rfl
  have eN : mN 2 F B C rn = 0 := rfl
  have eE : mE 2 F B C = 0 := rfl
  rw [eK, eN, eE]
  clear eK eN eE
  have hR := rgv_size F
  generalize rgv F = R at *
  have b0 : Hid (Blk ((((w.alloc (.cells R 25)).alloc (.cells #[.int .i64 2, .int .i64 A, .int .i64 B, .int .i64 C] 28)).alloc (.cells #[.int .i64 rk, .int .i64 rn] 24)).alloc (.cells #[.int .i64 0, .int .i64 0] 24)) (w.heap.size) R 25) := Lib.hid (by have h := (((Blk.new w R 25).keepn (g_alloc (g_refl (w.alloc (.cells R 25)) none) (.cells #[.int .i64 2, .int .i64 A, .int .i64 B, .int .i64 C] 28))).keepn (g_alloc (g_refl ((w.alloc (.cells R 25)).alloc (.cells #[.int .i64 2, .int .i64 A, .int .i64 B, .int .i64 C] 28)) none) (.cells #[.int .i64 rk, .int .i64 rn] 24))).keepn (g_alloc (g_refl (((w.alloc (.cells R 25)).alloc (.cells #[.int .i64 2, .int .i64 A, .int .i64 B, .int .i64 C] 28)).alloc (.cells #[.int .i64 rk, .int .i64 rn] 24)) none) (.cells #[.int .i64 0, .int .i64 0] 24)); simpa using h)
  have b1 : Hid (Blk ((((w.alloc (.cells R 25)).alloc (.cells #[.int .i64 2, .int .i64 A, .int .i64 B, .int .i64 C] 28)).alloc (.cells #[.int .i64 rk, .int .i64 rn] 24)).alloc (.cells #[.int .i64 0, .int .i64 0] 24)) (w.heap.size + 1) #[.int .i64 2, .int .i64 A, .int .i64 B, .int .i64 C] 28) := Lib.hid (by have h := ((Blk.new (w.alloc (.cells R 25)) #[.int .i64 2, .int .i64 A, .int .i64 B, .int .i64 C] 28).keepn (g_alloc (g_refl ((w.alloc (.cells R 25)).alloc (.cells #[.int .i64 2, .int .i64 A, .int .i64 B, .int .i64 C] 28)) none) (.cells #[.int .i64 rk, .int .i64 rn] 24))).keepn (g_alloc (g_refl (((w.alloc (.cells R 25)).alloc (.cells #[.int .i64 2, .int .i64 A, .int .i64 B, .int .i64 C] 28)).alloc (.cells #[.int .i64 rk, .int .i64 rn] 24)) none) (.cells #[.int .i64 0, .int .i64 0] 24)); simpa using h)
  have b2 : Hid (Blk ((((w.alloc (.cells R 25)).alloc (.cells #[.int .i64 2, .int .i64 A, .int .i64 B, .int .i64 C] 28)).alloc (.cells #[.int .i64 rk, .int .i64 rn] 24)).alloc (.cells #[.int .i64 0, .int .i64 0] 24)) (w.heap.size + 1 + 1) #[.int .i64 rk, .int .i64 rn] 24) := Lib.hid (by have h := (Blk.new ((w.alloc (.cells R 25)).alloc (.cells #[.int .i64 2, .int .i64 A, .int .i64 B, .int .i64 C] 28)) #[.int .i64 rk, .int .i64 rn] 24).keepn (g_alloc (g_refl (((w.alloc (.cells R 25)).alloc (.cells #[.int .i64 2, .int .i64 A, .int .i64 B, .int .i64 C] 28)).alloc (.cells #[.int .i64 rk, .int .i64 rn] 24)) none) (.cells #[.int .i64 0, .int .i64 0] 24)); simpa using h)
  have b3 : Hid (Blk ((((w.alloc (.cells R 25)).alloc (.cells #[.int .i64 2, .int .i64 A, .int .i64 B, .int .i64 C] 28)).alloc (.cells #[.int .i64 rk, .int .i64 rn] 24)).alloc (.cells #[.int .i64 0, .int .i64 0] 24)) (w.heap.size + 1 + 1 + 1) #[.int .i64 0, .int .i64 0] 24) := Lib.hid (by have h := Blk.new (((w.alloc (.cells R 25)).alloc (.cells #[.int .i64 2, .int .i64 A, .int .i64 B, .int .i64 C] 28)).alloc (.cells #[.int .i64 rk, .int .i64 rn] 24)) #[.int .i64 0, .int .i64 0] 24; simpa using h)
  have bA := g_alloc (g_alloc (g_alloc (g_alloc (g_refl w none) (.cells R 25)) (.cells #[.int .i64 2, .int .i64 A, .int .i64 B, .int .i64 C] 28)) (.cells #[.int .i64 rk, .int .i64 rn] 24)) (.cells #[.int .i64 0, .int .i64 0] 24)
  have hc := nil_any 
  go_enter Try.func21, Try.ntmps21
  go_wp2_with fail
  refine (hc _).mono ?_
  rintro e w1 ⟨rfl, g1⟩
  clear hc
  have d3 := Lib.hid (b3.out.keepn g1)
  have d3_0 := d3.out.cell 0 (.int .i64 0) rfl
  have d3_1 := d3.out.cell 1 (.int .i64 0) rfl
  have df3_0 := d3.out.free 0
  have df3_1 := d3.out.free 1
  go_wp2_with fail
  have rr := (d3.out.set 0 (.int .i64 (2))).set 1 (.int .i64 (0))
  have r0 := rr.cell 0 (.int .i64 (2)) rfl
  have r1 := rr.cell 1 (.int .i64 (0)) rfl
  exact bodyPost_ret (v := .tuple #[.agg #[.int .i64 (2), .int .i64 (0)], .int .i64 (0)]) (by simp [results, Try.results21, go_sem, r0, r1]) rfl ⟨rfl, g_in (g_trans bA g1) (g_set (g_set (g_refl w1 (some (w.heap.size + 1 + 1 + 1))) (p := ⟨w.heap.size + 1 + 1 + 1, 0, none⟩) (.inl rfl) _) (p := ⟨w.heap.size + 1 + 1 + 1, 1, none⟩) (.inl rfl) _) (by omega)⟩

set_option maxHeartbeats 1600000 in
theorem made_3 (F : Nat → Int) (A rk rn : Int) (B : Nat) (C : Int) (hB : B < 8) (w : World) : Calls Try.prog 21 #[.agg (rgv F), .agg #[.int .i64 3, .int .i64 A, .int .i64 (B : Int), .int .i64 C], .agg #[.int .i64 rk, .int .i64 rn]] w fun e w' => e = .returned (.tuple #[.agg #[.int .i64 (mK 3 F (B : Int) C rk), .int .i64 (mN 3 F (B : Int) C rn)], .int .i64 (mE 3 F (B : Int) C)]) ∧ w.grownBy w' none := by
  have eK : mK 3 F (B : Int) C rk = rK F B := rfl
  have eN : mN 3 F (B : Int) C rn = rN F B := rfl
  have eE : mE 3 F (B : Int) C = 0 := rfl
  rw [eK, eN, eE]
  clear eK eN eE
  have hx : (rgv F)[B * 2]? = some (.int .i64 (rK F B)) := rgv_get F (by omega)
  have hy : (rgv F)[B * 2 + 1]? = some (.int .i64 (rN F B)) := rgv_get F (by omega)
  have hBi : (B : Int) < 8 := by omega
  generalize rK F B = x at *
  generalize rN F B = y at *
  have hR := rgv_size F
  generalize rgv F = R at *
  have b0 : Hid (Blk ((((w.alloc (.cells R 25)).alloc (.cells #[.int .i64 3, .int .i64 A, .int .i64 (B : Int), .int .i64 C] 28)).alloc (.cells #[.int .i64 rk, .int .i64 rn] 24)).alloc (.cells #[.int .i64 0, .int .i64 0] 24)) (w.heap.size) R 25) := Lib.hid (by have h := (((Blk.new w R 25).keepn (g_alloc (g_refl (w.alloc (.cells R 25)) none) (.cells #[.int .i64 3, .int .i64 A, .int .i64 (B : Int), .int .i64 C] 28))).keepn (g_alloc (g_refl ((w.alloc (.cells R 25)).alloc (.cells #[.int .i64 3, .int .i64 A, .int .i64 (B : Int), .int .i64 C] 28)) none) (.cells #[.int .i64 rk, .int .i64 rn] 24))).keepn (g_alloc (g_refl (((w.alloc (.cells R 25)).alloc (.cells #[.int .i64 3, .int .i64 A, .int .i64 (B : Int), .int .i64 C] 28)).alloc (.cells #[.int .i64 rk, .int .i64 rn] 24)) none) (.cells #[.int .i64 0, .int .i64 0] 24)); simpa using h)
  have b1 : Hid (Blk ((((w.alloc (.cells R 25)).alloc (.cells #[.int .i64 3, .int .i64 A, .int .i64 (B : Int), .int .i64 C] 28)).alloc (.cells #[.int .i64 rk, .int .i64 rn] 24)).alloc (.cells #[.int .i64 0, .int .i64 0] 24)) (w.heap.size + 1) #[.int .i64 3, .int .i64 A, .int .i64 (B : Int), .int .i64 C] 28) := Lib.hid (by have h := ((Blk.new (w.alloc (.cells R 25)) #[.int .i64 3, .int .i64 A, .int .i64 (B : Int), .int .i64 C] 28).keepn (g_alloc (g_refl ((w.alloc (.cells R 25)).alloc (.cells #[.int .i64 3, .int .i64 A, .int .i64 (B : Int), .int .i64 C] 28)) none) (.cells #[.int .i64 rk, .int .i64 rn] 24))).keepn (g_alloc (g_refl (((w.alloc (.cells R 25)).alloc (.cells #[.int .i64 3, .int .i64 A, .int .i64 (B : Int), .int .i64 C] 28)).alloc (.cells #[.int .i64 rk, .int .i64 rn] 24)) none) (.cells #[.int .i64 0, .int .i64 0] 24)); simpa using h)
  have b2 : Hid (Blk ((((w.alloc (.cells R 25)).alloc (.cells #[.int .i64 3, .int .i64 A, .int .i64 (B : Int), .int .i64 C] 28)).alloc (.cells #[.int .i64 rk, .int .i64 rn] 24)).alloc (.cells #[.int .i64 0, .int .i64 0] 24)) (w.heap.size + 1 + 1) #[.int .i64 rk, .int .i64 rn] 24) := Lib.hid (by have h := (Blk.new ((w.alloc (.cells R 25)).alloc (.cells #[.int .i64 3, .int .i64 A, .int .i64 (B : Int), .int .i64 C] 28)) #[.int .i64 rk, .int .i64 rn] 24).keepn (g_alloc (g_refl (((w.alloc (.cells R 25)).alloc (.cells #[.int .i64 3, .int .i64 A, .int .i64 (B : Int), .int .i64 C] 28)).alloc (.cells #[.int .i64 rk, .int .i64 rn] 24)) none) (.cells #[.int .i64 0, .int .i64 0] 24)); simpa using h)
  have b3 : Hid (Blk ((((w.alloc (.cells R 25)).alloc (.cells #[.int .i64 3, .int .i64 A, .int .i64 (B : Int), .int .i64 C] 28)).alloc (.cells #[.int .i64 rk, .int .i64 rn] 24)).alloc (.cells #[.int .i64 0, .int .i64 0] 24)) (w.heap.size + 1 + 1 + 1) #[.int .i64 0, .int .i64 0] 24) := Lib.hid (by have h := Blk.new (((w.alloc (.cells R 25)).alloc (.cells #[.int .i64 3, .int .i64 A, .int .i64 (B : Int), .int .i64 C] 28)).alloc (.cells #[.int .i64 rk, .int .i64 rn] 24)) #[.int .i64 0, .int .i64 0] 24; simpa using h)
  have bA := g_alloc (g_alloc (g_alloc (g_alloc (g_refl w none) (.cells R 25)) (.cells #[.int .i64 3, .int .i64 A, .int .i64 (B : Int), .int .i64 C] 28)) (.cells #[.int .i64 rk, .int .i64 rn] 24)) (.cells #[.int .i64 0, .int .i64 0] 24)
  go_enter Try.func21, Try.ntmps21
  go_wp2_with fail
  exact bodyPost_ret (v := .tuple #[.agg #[.int .i64 x, .int .i64 y], .int .i64 0]) (by simp [results, Try.results21, go_sem]) rfl ⟨rfl, g_alloc (g_alloc (g_alloc (g_alloc (g_refl _ _) _) _) _) _⟩

set_option maxHeartbeats 1600000 in
theorem made_4 (F : Nat → Int) (A rk rn : Int) (B : Nat) (C : Nat) (hB : B < 8) (hC : C < 8) (w : World) : Calls Try.prog 21 #[.agg (rgv F), .agg #[.int .i64 4, .int .i64 A, .int .i64 (B : Int), .int .i64 (C : Int)], .agg #[.int .i64 rk, .int .i64 rn]] w fun e w' => e = .returned (.tuple #[.agg #[.int .i64 (mK 4 F (B : Int) (C : Int) rk), .int .i64 (mN 4 F (B : Int) (C : Int) rn)], .int .i64 (mE 4 F (B : Int) (C : Int))]) ∧ w.grownBy w' none := by
  have eK : mK 4 F (B : Int) (C : Int) rk = nK (rK F B) (rK F C) := rfl
  have eN : mN 4 F (B : Int) (C : Int) rn = nN (rK F B) (rK F C) (wrap64 (rN F B + rN F C)) := rfl
  have eE : mE 4 F (B : Int) (C : Int) = nE (rK F B) (rK F C) := rfl
  rw [eK, eN, eE]
  clear eK eN eE
  have hx : (rgv F)[B * 2]? = some (.int .i64 (rK F B)) := rgv_get F (by omega)
  have hy : (rgv F)[B * 2 + 1]? = some (.int .i64 (rN F B)) := rgv_get F (by omega)
  have hu : (rgv F)[C * 2]? = some (.int .i64 (rK F C)) := rgv_get F (by omega)
  have hv : (rgv F)[C * 2 + 1]? = some (.int .i64 (rN F C)) := rgv_get F (by omega)
  have hBi : (B : Int) < 8 := by omega
  have hCi : (C : Int) < 8 := by omega
  generalize rK F B = x at *
  generalize rN F B = y at *
  generalize rK F C = u at *
  generalize rN F C = v at *
  have hR := rgv_size F
  generalize rgv F = R at *
  have b0 : Hid (Blk ((((w.alloc (.cells R 25)).alloc (.cells #[.int .i64 4, .int .i64 A, .int .i64 (B : Int), .int .i64 (C : Int)] 28)).alloc (.cells #[.int .i64 rk, .int .i64 rn] 24)).alloc (.cells #[.int .i64 0, .int .i64 0] 24)) (w.heap.size) R 25) := Lib.hid (by have h := (((Blk.new w R 25).keepn (g_alloc (g_refl (w.alloc (.cells R 25)) none) (.cells #[.int .i64 4, .int .i64 A, .int .i64 (B : Int), .int .i64 (C : Int)] 28))).keepn (g_alloc (g_refl ((w.alloc (.cells R 25)).alloc (.cells #[.int .i64 4, .int .i64 A, .int .i64 (B : Int), .int .i64 (C : Int)] 28)) none) (.cells #[.int .i64 rk, .int .i64 rn] 24))).keepn (g_alloc (g_refl (((w.alloc (.cells R 25)).alloc (.cells #[.int .i64 4, .int .i64 A, .int .i64 (B : Int), .int .i64 (C : Int)] 28)).alloc (.cells #[.int .i64 rk, .int .i64 rn] 24)) none) (.cells #[.int .i64 0, .int .i64 0] 24)); simpa using h)
  have b1 : Hid (Blk ((((w.alloc (.cells R 25)).alloc (.cells #[.int .i64 4, .int .i64 A, .int .i64 (B : Int), .int .i64 (C : Int)] 28)).alloc (.cells #[.int .i64 rk, .int .i64 rn] 24)).alloc (.cells #[.int .i64 0, .int .i64 0] 24)) (w.heap.size + 1) #[.int .i64 4, .int .i64 A, .int .i64 (B : Int), .int .i64 (C : Int)] 28) := Lib.hid (by have h := ((Blk.new (w.alloc (.cells R 25)) #[.int .i64 4, .int .i64 A, .int .i64 (B : Int), .int .i64 (C : Int)] 28).keepn (g_alloc (g_refl ((w.alloc (.cells R 25)).alloc (.cells #[.int .i64 4, .int .i64 A, .int .i64 (B : Int), .int .i64 (C : Int)] 28)) none) (.cells #[.int .i64 rk, .int .i64 rn] 24))).keepn (g_alloc (g_refl (((w.alloc (.cells R 25)).alloc (.cells #[.int .i64 4, .int .i64 A, .int .i64 (B : Int), .int .i64 (C : Int)] 28)).alloc (.cells #[.int .i64 rk, .int .i64 rn] 24)) none) (.cells #[.int .i64 0, .int .i64 0] 24)); simpa using h)
  have b2 : Hid (Blk ((((w.alloc (.cells R 25)).alloc (.cells #[.int .i64 4, .int .i64 A, .int .i64 (B : Int), .int .i64 (C : Int)] 28)).alloc (.cells #[.int .i64 rk, .int .i64 rn] 24)).alloc (.cells #[.int .i64 0, .int .i64 0] 24)) (w.heap.size + 1 + 1) #[.int .i64 rk, .int .i64 rn] 24) := Lib.hid (by have h := (Blk.new ((w.alloc (.cells R 25)).alloc (.cells #[.int .i64 4, .int .i64 A, .int .i64 (B : Int), .int .i64 (C : Int)] 28)) #[.int .i64 rk, .int .i64 rn] 24).keepn (g_alloc (g_refl (((w.alloc (.cells R 25)).alloc (.cells #[.int .i64 4, .int .i64 A, .int .i64 (B : Int), .int .i64 (C : Int)] 28)).alloc (.cells #[.int .i64 rk, .int .i64 rn] 24)) none) (.cells #[.int .i64 0, .int .i64 0] 24)); simpa using h)
  have b3 : Hid (Blk ((((w.alloc (.cells R 25)).alloc (.cells #[.int .i64 4, .int .i64 A, .int .i64 (B : Int), .int .i64 (C : Int)] 28)).alloc (.cells #[.int .i64 rk, .int .i64 rn] 24)).alloc (.cells #[.int .i64 0, .int .i64 0] 24)) (w.heap.size + 1 + 1 + 1) #[.int .i64 0, .int .i64 0] 24) := Lib.hid (by have h := Blk.new (((w.alloc (.cells R 25)).alloc (.cells #[.int .i64 4, .int .i64 A, .int .i64 (B : Int), .int .i64 (C : Int)] 28)).alloc (.cells #[.int .i64 rk, .int .i64 rn] 24)) #[.int .i64 0, .int .i64 0] 24; simpa using h)
  have bA := g_alloc (g_alloc (g_alloc (g_alloc (g_refl w none) (.cells R 25)) (.cells #[.int .i64 4, .int .i64 A, .int .i64 (B : Int), .int .i64 (C : Int)] 28)) (.cells #[.int .i64 rk, .int .i64 rn] 24)) (.cells #[.int .i64 0, .int .i64 0] 24)
  have hc := add_any x y u v
  generalize nK x u = p at *
  generalize nN x u (wrap64 (y + v)) = q at *
  generalize nE x u = z at *
  have HC := Lib.hid hc
  clear hc
  go_enter Try.func21, Try.ntmps21
  go_wp2_with fail
  generalize (((((w.alloc (.cells R 25)).alloc (.cells #[.int .i64 4, .int .i64 A, .int .i64 (B : Int), .int .i64 (C : Int)] 28)).alloc (.cells #[.int .i64 rk, .int .i64 rn] 24)).alloc (.cells #[.int .i64 0, .int .i64 0] 24))) = W3 at *
  have KS : Hid (∀ W', W3.grownBy W' (some (w.heap.size + 1 + 1 + 1)) → (∃ X, X.size = 2 ∧ Blk W' (w.heap.size + 1 + 1 + 1) X 24) → W3.grownBy W' (some (w.heap.size + 1 + 1 + 1)) ∧ (∃ X, X.size = 2 ∧ Blk W' (w.heap.size + 1 + 1 + 1) X 24) ∧ W'.cell? ⟨w.heap.size + 1 + 1 + 1, 0, none⟩ = some (cv W' ⟨w.heap.size + 1 + 1 + 1, 0, none⟩) ∧ W'.cell? ⟨w.heap.size + 1 + 1 + 1, 1, none⟩ = some (cv W' ⟨w.heap.size + 1 + 1 + 1, 1, none⟩) ∧ W'.frozen? ⟨w.heap.size + 1 + 1 + 1, 0, none⟩ = false ∧ W'.frozen? ⟨w.heap.size + 1 + 1 + 1, 1, none⟩ = false ∧ W'.cell? ⟨w.heap.size, B * 2, none⟩ = some (.int .i64 x) ∧ W'.cell? ⟨w.heap.size, B * 2 + 1, none⟩ = some (.int .i64 y) ∧ W'.cell? ⟨w.heap.size, C * 2, none⟩ = some (.int .i64 u) ∧ W'.cell? ⟨w.heap.size, C * 2 + 1, none⟩ = some (.int .i64 v) ∧ W'.cell? ⟨w.heap.size + 1, 2, none⟩ = some (.int .i64 B) ∧ W'.cell? ⟨w.heap.size + 1, 3, none⟩ = some (.int .i64 C)) := Lib.hid (fun W' g hX => ⟨g, hX, by obtain ⟨X, h1, h2⟩ := hX; exact cv_eq h2 (by omega), by obtain ⟨X, h1, h2⟩ := hX; exact cv_eq h2 (by omega), by obtain ⟨X, h1, h2⟩ := hX; exact h2.free 0, by obtain ⟨X, h1, h2⟩ := hX; exact h2.free 1, (b0.out.keeps g (by omega)).cell _ _ hx, (b0.out.keeps g (by omega)).cell _ _ hy, (b0.out.keeps g (by omega)).cell _ _ hu, (b0.out.keeps g (by omega)).cell _ _ hv, (b1.out.keeps g (by omega)).cell 2 _ rfl, (b1.out.keeps g (by omega)).cell 3 _ rfl⟩)
  have KT : Hid (∀ W' p q, W3.grownBy W' (some (w.heap.size + 1 + 1 + 1)) ∧ (∃ X, X.size = 2 ∧ Blk W' (w.heap.size + 1 + 1 + 1) X 24) → W3.grownBy ((W'.setCell ⟨w.heap.size + 1 + 1 + 1, 0, none⟩ p).setCell ⟨w.heap.size + 1 + 1 + 1, 1, none⟩ q) (some (w.heap.size + 1 + 1 + 1)) ∧ (∃ X, X.size = 2 ∧ Blk ((W'.setCell ⟨w.heap.size + 1 + 1 + 1, 0, none⟩ p).setCell ⟨w.heap.size + 1 + 1 + 1, 1, none⟩ q) (w.heap.size + 1 + 1 + 1) X 24)) := Lib.hid (fun W' p q h => ⟨g_set (g_set h.1 (.inl rfl) p) (.inl rfl) q, by obtain ⟨X, h1, h2⟩ := h.2; exact ⟨_, by simpa using h1, (h2.set 0 p).set 1 q⟩⟩)
  have B3 : Hid (∃ X, X.size = 2 ∧ Blk W3 (w.heap.size + 1 + 1 + 1) X 24) := Lib.hid ⟨_, rfl, b3.out⟩
  clear hx hy hu hv hR b0 b1 b2
  go_region_held3 (fun W' => W3.grownBy W' (some (w.heap.size + 1 + 1 + 1)) ∧ (∃ X, X.size = 2 ∧ Blk W' (w.heap.size + 1 + 1 + 1) X 24) ∧ W'.cell? ⟨w.heap.size + 1 + 1 + 1, 0, none⟩ = some (cv W' ⟨w.heap.size + 1 + 1 + 1, 0, none⟩) ∧ W'.cell? ⟨w.heap.size + 1 + 1 + 1, 1, none⟩ = some (cv W' ⟨w.heap.size + 1 + 1 + 1, 1, none⟩) ∧ W'.frozen? ⟨w.heap.size + 1 + 1 + 1, 0, none⟩ = false ∧ W'.frozen? ⟨w.heap.size + 1 + 1 + 1, 1, none⟩ = false ∧ W'.cell? ⟨w.heap.size, B * 2, none⟩ = some (.int .i64 x) ∧ W'.cell? ⟨w.heap.size, B * 2 + 1, none⟩ = some (.int .i64 y) ∧ W'.cell? ⟨w.heap.size, C * 2, none⟩ = some (.int .i64 u) ∧ W'.cell? ⟨w.heap.size, C * 2 + 1, none⟩ = some (.int .i64 v) ∧ W'.cell? ⟨w.heap.size + 1, 2, none⟩ = some (.int .i64 B) ∧ W'.cell? ⟨w.heap.size + 1, 3, none⟩ = some (.int .i64 C)) (first | exact KS.out _ (g_drew (g_refl _ _)) B3.out | exact KS.out _ gZ hZ | (obtain ⟨gy, hyX, _⟩ := (by assumption : _ ∧ (∃ X, X.size = 2 ∧ Blk _ (w.heap.size + 1 + 1 + 1) X 24) ∧ _); exact KS.out _ (KT.out _ _ _ ⟨gy, hyX⟩).1 (KT.out _ _ _ ⟨gy, hyX⟩).2) | (obtain ⟨gy, hyX, _⟩ := (by assumption : _ ∧ (∃ X, X.size = 2 ∧ Blk _ (w.heap.size + 1 + 1 + 1) X 24) ∧ _); exact KS.out _ gy hyX)) (first | (go_at_call 32; refine Calls.mono (HC.out _) ?_; rintro e wa ⟨rfl, ga⟩; obtain ⟨gy, ⟨XX, hXX, hbX⟩, _⟩ := (by assumption : _ ∧ (∃ X, X.size = 2 ∧ Blk _ (w.heap.size + 1 + 1 + 1) X 24) ∧ _); have gZ := g_then gy ga; have hZ : ∃ X, X.size = 2 ∧ Blk wa (w.heap.size + 1 + 1 + 1) X 24 := ⟨XX, hXX, hbX.keepn ga⟩))
  have rr := ((hbX.keepn ga).set 0 (.int .i64 (p))).set 1 (.int .i64 (q))
  have r0 := rr.cell 0 (.int .i64 (p)) (by simp [hXX])
  have r1 := rr.cell 1 (.int .i64 (q)) (by simp [hXX])
  have gE := g_set (g_set gZ (p := ⟨w.heap.size + 1 + 1 + 1, 0, none⟩) (.inl rfl) (.int .i64 (p))) (p := ⟨w.heap.size + 1 + 1 + 1, 1, none⟩) (.inl rfl) (.int .i64 (q))
  go_wp2_with fail
  exact bodyPost_ret (v := .tuple #[.agg #[.int .i64 (p), .int .i64 (q)], .int .i64 (z)]) (by simp [results, Try.results21, go_sem, r0, r1]) rfl ⟨rfl, g_in bA gE (by omega)⟩

set_option maxHeartbeats 1600000 in
theorem made_5 (F : Nat → Int) (A rk rn : Int) (B : Nat) (C : Nat) (hB : B < 8) (hC : C < 8) (w : World) : Calls Try.prog 21 #[.agg (rgv F), .agg #[.int .i64 5, .int .i64 A, .int .i64 (B : Int), .int .i64 (C : Int)], .agg #[.int .i64 rk, .int .i64 rn]] w fun e w' => e = .returned (.tuple #[.agg #[.int .i64 (mK 5 F (B : Int) (C : Int) rk), .int .i64 (mN 5 F (B : Int) (C : Int) rn)], .int .i64 (mE 5 F (B : Int) (C : Int))]) ∧ w.grownBy w' none := by
  have eK : mK 5 F (B : Int) (C : Int) rk = nK (rK F B) (rK F C) := rfl
  have eN : mN 5 F (B : Int) (C : Int) rn = nN (rK F B) (rK F C) (wrap64 (rN F B - rN F C)) := rfl
  have eE : mE 5 F (B : Int) (C : Int) = nE (rK F B) (rK F C) := rfl
  rw [eK, eN, eE]
  clear eK eN eE
  have hx : (rgv F)[B * 2]? = some (.int .i64 (rK F B)) := rgv_get F (by omega)
  have hy : (rgv F)[B * 2 + 1]? = some (.int .i64 (rN F B)) := rgv_get F (by omega)
  have hu : (rgv F)[C * 2]? = some (.int .i64 (rK F C)) := rgv_get F (by omega)
  have hv : (rgv F)[C * 2 + 1]? = some (.int .i64 (rN F C)) := rgv_get F (by omega)
  have hBi : (B : Int) < 8 := by omega
  have hCi : (C : Int) < 8 := by omega
  generalize rK F B = x at *
  generalize rN F B = y at *
  generalize rK F C = u at *
  generalize rN F C = v at *
  have hR := rgv_size F
  generalize rgv F = R at *
  have b0 : Hid (Blk ((((w.alloc (.cells R 25)).alloc (.cells #[.int .i64 5, .int .i64 A, .int .i64 (B : Int), .int .i64 (C : Int)] 28)).alloc (.cells #[.int .i64 rk, .int .i64 rn] 24)).alloc (.cells #[.int .i64 0, .int .i64 0] 24)) (w.heap.size) R 25) := Lib.hid (by have h := (((Blk.new w R 25).keepn (g_alloc (g_refl (w.alloc (.cells R 25)) none) (.cells #[.int .i64 5, .int .i64 A, .int .i64 (B : Int), .int .i64 (C : Int)] 28))).keepn (g_alloc (g_refl ((w.alloc (.cells R 25)).alloc (.cells #[.int .i64 5, .int .i64 A, .int .i64 (B : Int), .int .i64 (C : Int)] 28)) none) (.cells #[.int .i64 rk, .int .i64 rn] 24))).keepn (g_alloc (g_refl (((w.alloc (.cells R 25)).alloc (.cells #[.int .i64 5, .int .i64 A, .int .i64 (B : Int), .int .i64 (C : Int)] 28)).alloc (.cells #[.int .i64 rk, .int .i64 rn] 24)) none) (.cells #[.int .i64 0, .int .i64 0] 24)); simpa using h)
  have b1 : Hid (Blk ((((w.alloc (.cells R 25)).alloc (.cells #[.int .i64 5, .int .i64 A, .int .i64 (B : Int), .int .i64 (C : Int)] 28)).alloc (.cells #[.int .i64 rk, .int .i64 rn] 24)).alloc (.cells #[.int .i64 0, .int .i64 0] 24)) (w.heap.size + 1) #[.int .i64 5, .int .i64 A, .int .i64 (B : Int), .int .i64 (C : Int)] 28) := Lib.hid (by have h := ((Blk.new (w.alloc (.cells R 25)) #[.int .i64 5, .int .i64 A, .int .i64 (B : Int), .int .i64 (C : Int)] 28).keepn (g_alloc (g_refl ((w.alloc (.cells R 25)).alloc (.cells #[.int .i64 5, .int .i64 A, .int .i64 (B : Int), .int .i64 (C : Int)] 28)) none) (.cells #[.int .i64 rk, .int .i64 rn] 24))).keepn (g_alloc (g_refl (((w.alloc (.cells R 25)).alloc (.cells #[.int .i64 5, .int .i64 A, .int .i64 (B : Int), .int .i64 (C : Int)] 28)).alloc (.cells #[.int .i64 rk, .int .i64 rn] 24)) none) (.cells #[.int .i64 0, .int .i64 0] 24)); simpa using h)
  have b2 : Hid (Blk ((((w.alloc (.cells R 25)).alloc (.cells #[.int .i64 5, .int .i64 A, .int .i64 (B : Int), .int .i64 (C : Int)] 28)).alloc (.cells #[.int .i64 rk, .int .i64 rn] 24)).alloc (.cells #[.int .i64 0, .int .i64 0] 24)) (w.heap.size + 1 + 1) #[.int .i64 rk, .int .i64 rn] 24) := Lib.hid (by have h := (Blk.new ((w.alloc (.cells R 25)).alloc (.cells #[.int .i64 5, .int .i64 A, .int .i64 (B : Int), .int .i64 (C : Int)] 28)) #[.int .i64 rk, .int .i64 rn] 24).keepn (g_alloc (g_refl (((w.alloc (.cells R 25)).alloc (.cells #[.int .i64 5, .int .i64 A, .int .i64 (B : Int), .int .i64 (C : Int)] 28)).alloc (.cells #[.int .i64 rk, .int .i64 rn] 24)) none) (.cells #[.int .i64 0, .int .i64 0] 24)); simpa using h)
  have b3 : Hid (Blk ((((w.alloc (.cells R 25)).alloc (.cells #[.int .i64 5, .int .i64 A, .int .i64 (B : Int), .int .i64 (C : Int)] 28)).alloc (.cells #[.int .i64 rk, .int .i64 rn] 24)).alloc (.cells #[.int .i64 0, .int .i64 0] 24)) (w.heap.size + 1 + 1 + 1) #[.int .i64 0, .int .i64 0] 24) := Lib.hid (by have h := Blk.new (((w.alloc (.cells R 25)).alloc (.cells #[.int .i64 5, .int .i64 A, .int .i64 (B : Int), .int .i64 (C : Int)] 28)).alloc (.cells #[.int .i64 rk, .int .i64 rn] 24)) #[.int .i64 0, .int .i64 0] 24; simpa using h)
  have bA := g_alloc (g_alloc (g_alloc (g_alloc (g_refl w none) (.cells R 25)) (.cells #[.int .i64 5, .int .i64 A, .int .i64 (B : Int), .int .i64 (C : Int)] 28)) (.cells #[.int .i64 rk, .int .i64 rn] 24)) (.cells #[.int .i64 0, .int .i64 0] 24)
  have hc := sub_any x y u v
  generalize nK x u = p at *
  generalize nN x u (wrap64 (y - v)) = q at *
  generalize nE x u = z at *
  have HC := Lib.hid hc
  clear hc
  go_enter Try.func21, Try.ntmps21
  go_wp2_with fail
  generalize (((((w.alloc (.cells R 25)).alloc (.cells #[.int .i64 5, .int .i64 A, .int .i64 (B : Int), .int .i64 (C : Int)] 28)).alloc (.cells #[.int .i64 rk, .int .i64 rn] 24)).alloc (.cells #[.int .i64 0, .int .i64 0] 24))) = W3 at *
  have KS : Hid (∀ W', W3.grownBy W' (some (w.heap.size + 1 + 1 + 1)) → (∃ X, X.size = 2 ∧ Blk W' (w.heap.size + 1 + 1 + 1) X 24) → W3.grownBy W' (some (w.heap.size + 1 + 1 + 1)) ∧ (∃ X, X.size = 2 ∧ Blk W' (w.heap.size + 1 + 1 + 1) X 24) ∧ W'.cell? ⟨w.heap.size + 1 + 1 + 1, 0, none⟩ = some (cv W' ⟨w.heap.size + 1 + 1 + 1, 0, none⟩) ∧ W'.cell? ⟨w.heap.size + 1 + 1 + 1, 1, none⟩ = some (cv W' ⟨w.heap.size + 1 + 1 + 1, 1, none⟩) ∧ W'.frozen? ⟨w.heap.size + 1 + 1 + 1, 0, none⟩ = false ∧ W'.frozen? ⟨w.heap.size + 1 + 1 + 1, 1, none⟩ = false ∧ W'.cell? ⟨w.heap.size, B * 2, none⟩ = some (.int .i64 x) ∧ W'.cell? ⟨w.heap.size, B * 2 + 1, none⟩ = some (.int .i64 y) ∧ W'.cell? ⟨w.heap.size, C * 2, none⟩ = some (.int .i64 u) ∧ W'.cell? ⟨w.heap.size, C * 2 + 1, none⟩ = some (.int .i64 v) ∧ W'.cell? ⟨w.heap.size + 1, 2, none⟩ = some (.int .i64 B) ∧ W'.cell? ⟨w.heap.size + 1, 3, none⟩ = some (.int .i64 C)) := Lib.hid (fun W' g hX => ⟨g, hX, by obtain ⟨X, h1, h2⟩ := hX; exact cv_eq h2 (by omega), by obtain ⟨X, h1, h2⟩ := hX; exact cv_eq h2 (by omega), by obtain ⟨X, h1, h2⟩ := hX; exact h2.free 0, by obtain ⟨X, h1, h2⟩ := hX; exact h2.free 1, (b0.out.keeps g (by omega)).cell _ _ hx, (b0.out.keeps g (by omega)).cell _ _ hy, (b0.out.keeps g (by omega)).cell _ _ hu, (b0.out.keeps g (by omega)).cell _ _ hv, (b1.out.keeps g (by omega)).cell 2 _ rfl, (b1.out.keeps g (by omega)).cell 3 _ rfl⟩)
  have KT : Hid (∀ W' p q, W3.grownBy W' (some (w.heap.size + 1 + 1 + 1)) ∧ (∃ X, X.size = 2 ∧ Blk W' (w.heap.size + 1 + 1 + 1) X 24) → W3.grownBy ((W'.setCell ⟨w.heap.size + 1 + 1 + 1, 0, none⟩ p).setCell ⟨w.heap.size + 1 + 1 + 1, 1, none⟩ q) (some (w.heap.size + 1 + 1 + 1)) ∧ (∃ X, X.size = 2 ∧ Blk ((W'.setCell ⟨w.heap.size + 1 + 1 + 1, 0, none⟩ p).setCell ⟨w.heap.size + 1 + 1 + 1, 1, none⟩ q) (w.heap.size + 1 + 1 + 1) X 24)) := Lib.hid (fun W' p q h => ⟨g_set (g_set h.1 (.inl rfl) p) (.inl rfl) q, by obtain ⟨X, h1, h2⟩ := h.2; exact ⟨_, by simpa using h1, (h2.set 0 p).set 1 q⟩⟩)
  have B3 : Hid (∃ X, X.size = 2 ∧ Blk W3 (w.heap.size + 1 + 1 + 1) X 24) := Lib.hid ⟨_, rfl, b3.out⟩
  clear hx hy hu hv hR b0 b1 b2
  go_region_held3 (fun W' => W3.grownBy W' (some (w.heap.size + 1 + 1 + 1)) ∧ (∃ X, X.size = 2 ∧ Blk W' (w.heap.size + 1 + 1 + 1) X 24) ∧ W'.cell? ⟨w.heap.size + 1 + 1 + 1, 0, none⟩ = some (cv W' ⟨w.heap.size + 1 + 1 + 1, 0, none⟩) ∧ W'.cell? ⟨w.heap.size + 1 + 1 + 1, 1, none⟩ = some (cv W' ⟨w.heap.size + 1 + 1 + 1, 1, none⟩) ∧ W'.frozen? ⟨w.heap.size + 1 + 1 + 1, 0, none⟩ = false ∧ W'.frozen? ⟨w.heap.size + 1 + 1 + 1, 1, none⟩ = false ∧ W'.cell? ⟨w.heap.size, B * 2, none⟩ = some (.int .i64 x) ∧ W'.cell? ⟨w.heap.size, B * 2 + 1, none⟩ = some (.int .i64 y) ∧ W'.cell? ⟨w.heap.size, C * 2, none⟩ = some (.int .i64 u) ∧ W'.cell? ⟨w.heap.size, C * 2 + 1, none⟩ = some (.int .i64 v) ∧ W'.cell? ⟨w.heap.size + 1, 2, none⟩ = some (.int .i64 B) ∧ W'.cell? ⟨w.heap.size + 1, 3, none⟩ = some (.int .i64 C)) (first | exact KS.out _ (g_drew (g_refl _ _)) B3.out | exact KS.out _ gZ hZ | (obtain ⟨gy, hyX, _⟩ := (by assumption : _ ∧ (∃ X, X.size = 2 ∧ Blk _ (w.heap.size + 1 + 1 + 1) X 24) ∧ _); exact KS.out _ (KT.out _ _ _ ⟨gy, hyX⟩).1 (KT.out _ _ _ ⟨gy, hyX⟩).2) | (obtain ⟨gy, hyX, _⟩ := (by assumption : _ ∧ (∃ X, X.size = 2 ∧ Blk _ (w.heap.size + 1 + 1 + 1) X 24) ∧ _); exact KS.out _ gy hyX)) (first | (go_at_call 33; refine Calls.mono (HC.out _) ?_; rintro e wa ⟨rfl, ga⟩; obtain ⟨gy, ⟨XX, hXX, hbX⟩, _⟩ := (by assumption : _ ∧ (∃ X, X.size = 2 ∧ Blk _ (w.heap.size + 1 + 1 + 1) X 24) ∧ _); have gZ := g_then gy ga; have hZ : ∃ X, X.size = 2 ∧ Blk wa (w.heap.size + 1 + 1 + 1) X 24 := ⟨XX, hXX, hbX.keepn ga⟩))
  have rr := ((hbX.keepn ga).set 0 (.int .i64 (p))).set 1 (.int .i64 (q))
  have r0 := rr.cell 0 (.int .i64 (p)) (by simp [hXX])
  have r1 := rr.cell 1 (.int .i64 (q)) (by simp [hXX])
  have gE := g_set (g_set gZ (p := ⟨w.heap.size + 1 + 1 + 1, 0, none⟩) (.inl rfl) (.int .i64 (p))) (p := ⟨w.heap.size + 1 + 1 + 1, 1, none⟩) (.inl rfl) (.int .i64 (q))
  go_wp2_with fail
  exact bodyPost_ret (v := .tuple #[.agg #[.int .i64 (p), .int .i64 (q)], .int .i64 (z)]) (by simp [results, Try.results21, go_sem, r0, r1]) rfl ⟨rfl, g_in bA gE (by omega)⟩

set_option maxHeartbeats 1600000 in
theorem made_6 (F : Nat → Int) (A rk rn : Int) (B : Nat) (C : Nat) (hB : B < 8) (hC : C < 8) (w : World) : Calls Try.prog 21 #[.agg (rgv F), .agg #[.int .i64 6, .int .i64 A, .int .i64 (B : Int), .int .i64 (C : Int)], .agg #[.int .i64 rk, .int .i64 rn]] w fun e w' => e = .returned (.tuple #[.agg #[.int .i64 (mK 6 F (B : Int) (C : Int) rk), .int .i64 (mN 6 F (B : Int) (C : Int) rn)], .int .i64 (mE 6 F (B : Int) (C : Int))]) ∧ w.grownBy w' none := by
  have eK : mK 6 F (B : Int) (C : Int) rk = nK (rK F B) (rK F C) := rfl
  have eN : mN 6 F (B : Int) (C : Int) rn = nN (rK F B) (rK F C) (oneI (decide (rN F B < rN F C))) := rfl
  have eE : mE 6 F (B : Int) (C : Int) = nE (rK F B) (rK F C) := rfl
  rw [eK, eN, eE]
  clear eK eN eE
  have hx : (rgv F)[B * 2]? = some (.int .i64 (rK F B)) := rgv_get F (by omega)
  have hy : (rgv F)[B * 2 + 1]? = some (.int .i64 (rN F B)) := rgv_get F (by omega)
  have hu : (rgv F)[C * 2]? = some (.int .i64 (rK F C)) := rgv_get F (by omega)
  have hv : (rgv F)[C * 2 + 1]? = some (.int .i64 (rN F C)) := rgv_get F (by omega)
  have hBi : (B : Int) < 8 := by omega
  have hCi : (C : Int) < 8 := by omega
  generalize rK F B = x at *
  generalize rN F B = y at *
  generalize rK F C = u at *
  generalize rN F C = v at *
  have hR := rgv_size F
  generalize rgv F = R at *
  have b0 : Hid (Blk ((((w.alloc (.cells R 25)).alloc (.cells #[.int .i64 6, .int .i64 A, .int .i64 (B : Int), .int .i64 (C : Int)] 28)).alloc (.cells #[.int .i64 rk, .int .i64 rn] 24)).alloc (.cells #[.int .i64 0, .int .i64 0] 24)) (w.heap.size) R 25) := Lib.hid (by have h := (((Blk.new w R 25).keepn (g_alloc (g_refl (w.alloc (.cells R 25)) none) (.cells #[.int .i64 6, .int .i64 A, .int .i64 (B : Int), .int .i64 (C : Int)] 28))).keepn (g_alloc (g_refl ((w.alloc (.cells R 25)).alloc (.cells #[.int .i64 6, .int .i64 A, .int .i64 (B : Int), .int .i64 (C : Int)] 28)) none) (.cells #[.int .i64 rk, .int .i64 rn] 24))).keepn (g_alloc (g_refl (((w.alloc (.cells R 25)).alloc (.cells #[.int .i64 6, .int .i64 A, .int .i64 (B : Int), .int .i64 (C : Int)] 28)).alloc (.cells #[.int .i64 rk, .int .i64 rn] 24)) none) (.cells #[.int .i64 0, .int .i64 0] 24)); simpa using h)
  have b1 : Hid (Blk ((((w.alloc (.cells R 25)).alloc (.cells #[.int .i64 6, .int .i64 A, .int .i64 (B : Int), .int .i64 (C : Int)] 28)).alloc (.cells #[.int .i64 rk, .int .i64 rn] 24)).alloc (.cells #[.int .i64 0, .int .i64 0] 24)) (w.heap.size + 1) #[.int .i64 6, .int .i64 A, .int .i64 (B : Int), .int .i64 (C : Int)] 28) := Lib.hid (by have h := ((Blk.new (w.alloc (.cells R 25)) #[.int .i64 6, .int .i64 A, .int .i64 (B : Int), .int .i64 (C : Int)] 28).keepn (g_alloc (g_refl ((w.alloc (.cells R 25)).alloc (.cells #[.int .i64 6, .int .i64 A, .int .i64 (B : Int), .int .i64 (C : Int)] 28)) none) (.cells #[.int .i64 rk, .int .i64 rn] 24))).keepn (g_alloc (g_refl (((w.alloc (.cells R 25)).alloc (.cells #[.int .i64 6, .int .i64 A, .int .i64 (B : Int), .int .i64 (C : Int)] 28)).alloc (.cells #[.int .i64 rk, .int .i64 rn] 24)) none) (.cells #[.int .i64 0, .int .i64 0] 24)); simpa using h)
  have b2 : Hid (Blk ((((w.alloc (.cells R 25)).alloc (.cells #[.int .i64 6, .int .i64 A, .int .i64 (B : Int), .int .i64 (C : Int)] 28)).alloc (.cells #[.int .i64 rk, .int .i64 rn] 24)).alloc (.cells #[.int .i64 0, .int .i64 0] 24)) (w.heap.size + 1 + 1) #[.int .i64 rk, .int .i64 rn] 24) := Lib.hid (by have h := (Blk.new ((w.alloc (.cells R 25)).alloc (.cells #[.int .i64 6, .int .i64 A, .int .i64 (B : Int), .int .i64 (C : Int)] 28)) #[.int .i64 rk, .int .i64 rn] 24).keepn (g_alloc (g_refl (((w.alloc (.cells R 25)).alloc (.cells #[.int .i64 6, .int .i64 A, .int .i64 (B : Int), .int .i64 (C : Int)] 28)).alloc (.cells #[.int .i64 rk, .int .i64 rn] 24)) none) (.cells #[.int .i64 0, .int .i64 0] 24)); simpa using h)
  have b3 : Hid (Blk ((((w.alloc (.cells R 25)).alloc (.cells #[.int .i64 6, .int .i64 A, .int .i64 (B : Int), .int .i64 (C : Int)] 28)).alloc (.cells #[.int .i64 rk, .int .i64 rn] 24)).alloc (.cells #[.int .i64 0, .int .i64 0] 24)) (w.heap.size + 1 + 1 + 1) #[.int .i64 0, .int .i64 0] 24) := Lib.hid (by have h := Blk.new (((w.alloc (.cells R 25)).alloc (.cells #[.int .i64 6, .int .i64 A, .int .i64 (B : Int), .int .i64 (C : Int)] 28)).alloc (.cells #[.int .i64 rk, .int .i64 rn] 24)) #[.int .i64 0, .int .i64 0] 24; simpa using h)
  have bA := g_alloc (g_alloc (g_alloc (g_alloc (g_refl w none) (.cells R 25)) (.cells #[.int .i64 6, .int .i64 A, .int .i64 (B : Int), .int .i64 (C : Int)] 28)) (.cells #[.int .i64 rk, .int .i64 rn] 24)) (.cells #[.int .i64 0, .int .i64 0] 24)
  have hc := less_any x y u v
  generalize nK x u = p at *
  generalize nN x u (oneI (decide (y < v))) = q at *
  generalize nE x u = z at *
  have HC := Lib.hid hc
  clear hc
  go_enter Try.func21, Try.ntmps21
  go_wp2_with fail
  generalize (((((w.alloc (.cells R 25)).alloc (.cells #[.int .i64 6, .int .i64 A, .int .i64 (B : Int), .int .i64 (C : Int)] 28)).alloc (.cells #[.int .i64 rk, .int .i64 rn] 24)).alloc (.cells #[.int .i64 0, .int .i64 0] 24))) = W3 at *
  have KS : Hid (∀ W', W3.grownBy W' (some (w.heap.size + 1 + 1 + 1)) → (∃ X, X.size = 2 ∧ Blk W' (w.heap.size + 1 + 1 + 1) X 24) → W3.grownBy W' (some (w.heap.size + 1 + 1 + 1)) ∧ (∃ X, X.size = 2 ∧ Blk W' (w.heap.size + 1 + 1 + 1) X 24) ∧ W'.cell? ⟨w.heap.size + 1 + 1 + 1, 0, none⟩ = some (cv W' ⟨w.heap.size + 1 + 1 + 1, 0, none⟩) ∧ W'.cell? ⟨w.heap.size + 1 + 1 + 1, 1, none⟩ = some (cv W' ⟨w.heap.size + 1 + 1 + 1, 1, none⟩) ∧ W'.frozen? ⟨w.heap.size + 1 + 1 + 1, 0, none⟩ = false ∧ W'.frozen? ⟨w.heap.size + 1 + 1 + 1, 1, none⟩ = false ∧ W'.cell? ⟨w.heap.size, B * 2, none⟩ = some (.int .i64 x) ∧ W'.cell? ⟨w.heap.size, B * 2 + 1, none⟩ = some (.int .i64 y) ∧ W'.cell? ⟨w.heap.size, C * 2, none⟩ = some (.int .i64 u) ∧ W'.cell? ⟨w.heap.size, C * 2 + 1, none⟩ = some (.int .i64 v) ∧ W'.cell? ⟨w.heap.size + 1, 2, none⟩ = some (.int .i64 B) ∧ W'.cell? ⟨w.heap.size + 1, 3, none⟩ = some (.int .i64 C)) := Lib.hid (fun W' g hX => ⟨g, hX, by obtain ⟨X, h1, h2⟩ := hX; exact cv_eq h2 (by omega), by obtain ⟨X, h1, h2⟩ := hX; exact cv_eq h2 (by omega), by obtain ⟨X, h1, h2⟩ := hX; exact h2.free 0, by obtain ⟨X, h1, h2⟩ := hX; exact h2.free 1, (b0.out.keeps g (by omega)).cell _ _ hx, (b0.out.keeps g (by omega)).cell _ _ hy, (b0.out.keeps g (by omega)).cell _ _ hu, (b0.out.keeps g (by omega)).cell _ _ hv, (b1.out.keeps g (by omega)).cell 2 _ rfl, (b1.out.keeps g (by omega)).cell 3 _ rfl⟩)
  have KT : Hid (∀ W' p q, W3.grownBy W' (some (w.heap.size + 1 + 1 + 1)) ∧ (∃ X, X.size = 2 ∧ Blk W' (w.heap.size + 1 + 1 + 1) X 24) → W3.grownBy ((W'.setCell ⟨w.heap.size + 1 + 1 + 1, 0, none⟩ p).setCell ⟨w.heap.size + 1 + 1 + 1, 1, none⟩ q) (some (w.heap.size + 1 + 1 + 1)) ∧ (∃ X, X.size = 2 ∧ Blk ((W'.setCell ⟨w.heap.size + 1 + 1 + 1, 0, none⟩ p).setCell ⟨w.heap.size + 1 + 1 + 1, 1, none⟩ q) (w.heap.size + 1 + 1 + 1) X 24)) := Lib.hid (fun W' p q h => ⟨g_set (g_set h.1 (.inl rfl) p) (.inl rfl) q, by obtain ⟨X, h1, h2⟩ := h.2; exact ⟨_, by simpa using h1, (h2.set 0 p).set 1 q⟩⟩)
  have B3 : Hid (∃ X, X.size = 2 ∧ Blk W3 (w.heap.size + 1 + 1 + 1) X 24) := Lib.hid ⟨_, rfl, b3.out⟩
  clear hx hy hu hv hR b0 b1 b2
  go_region_held3 (fun W' => W3.grownBy W' (some (w.heap.size + 1 + 1 + 1)) ∧ (∃ X, X.size = 2 ∧ Blk W' (w.heap.size + 1 + 1 + 1) X 24) ∧ W'.cell? ⟨w.heap.size + 1 + 1 + 1, 0, none⟩ = some (cv W' ⟨w.heap.size + 1 + 1 + 1, 0, none⟩) ∧ W'.cell? ⟨w.heap.size + 1 + 1 + 1, 1, none⟩ = some (cv W' ⟨w.heap.size + 1 + 1 + 1, 1, none⟩) ∧ W'.frozen? ⟨w.heap.size + 1 + 1 + 1, 0, none⟩ = false ∧ W'.frozen? ⟨w.heap.size + 1 + 1 + 1, 1, none⟩ = false ∧ W'.cell? ⟨w.heap.size, B * 2, none⟩ = some (.int .i64 x) ∧ W'.cell? ⟨w.heap.size, B * 2 + 1, none⟩ = some (.int .i64 y) ∧ W'.cell? ⟨w.heap.size, C * 2, none⟩ = some (.int .i64 u) ∧ W'.cell? ⟨w.heap.size, C * 2 + 1, none⟩ = some (.int .i64 v) ∧ W'.cell? ⟨w.heap.size + 1, 2, none⟩ = some (.int .i64 B) ∧ W'.cell? ⟨w.heap.size + 1, 3, none⟩ = some (.int .i64 C)) (first | exact KS.out _ (g_drew (g_refl _ _)) B3.out | exact KS.out _ gZ hZ | (obtain ⟨gy, hyX, _⟩ := (by assumption : _ ∧ (∃ X, X.size = 2 ∧ Blk _ (w.heap.size + 1 + 1 + 1) X 24) ∧ _); exact KS.out _ (KT.out _ _ _ ⟨gy, hyX⟩).1 (KT.out _ _ _ ⟨gy, hyX⟩).2) | (obtain ⟨gy, hyX, _⟩ := (by assumption : _ ∧ (∃ X, X.size = 2 ∧ Blk _ (w.heap.size + 1 + 1 + 1) X 24) ∧ _); exact KS.out _ gy hyX)) (first | (go_at_call 34; refine Calls.mono (HC.out _) ?_; rintro e wa ⟨rfl, ga⟩; obtain ⟨gy, ⟨XX, hXX, hbX⟩, _⟩ := (by assumption : _ ∧ (∃ X, X.size = 2 ∧ Blk _ (w.heap.size + 1 + 1 + 1) X 24) ∧ _); have gZ := g_then gy ga; have hZ : ∃ X, X.size = 2 ∧ Blk wa (w.heap.size + 1 + 1 + 1) X 24 := ⟨XX, hXX, hbX.keepn ga⟩))
  have rr := ((hbX.keepn ga).set 0 (.int .i64 (p))).set 1 (.int .i64 (q))
  have r0 := rr.cell 0 (.int .i64 (p)) (by simp [hXX])
  have r1 := rr.cell 1 (.int .i64 (q)) (by simp [hXX])
  have gE := g_set (g_set gZ (p := ⟨w.heap.size + 1 + 1 + 1, 0, none⟩) (.inl rfl) (.int .i64 (p))) (p := ⟨w.heap.size + 1 + 1 + 1, 1, none⟩) (.inl rfl) (.int .i64 (q))
  go_wp2_with fail
  exact bodyPost_ret (v := .tuple #[.agg #[.int .i64 (p), .int .i64 (q)], .int .i64 (z)]) (by simp [results, Try.results21, go_sem, r0, r1]) rfl ⟨rfl, g_in bA gE (by omega)⟩

set_option maxHeartbeats 1600000 in
theorem made_7 (F : Nat → Int) (A rk rn : Int) (B : Nat) (C : Nat) (hB : B < 8) (hC : C < 8) (w : World) : Calls Try.prog 21 #[.agg (rgv F), .agg #[.int .i64 7, .int .i64 A, .int .i64 (B : Int), .int .i64 (C : Int)], .agg #[.int .i64 rk, .int .i64 rn]] w fun e w' => e = .returned (.tuple #[.agg #[.int .i64 (mK 7 F (B : Int) (C : Int) rk), .int .i64 (mN 7 F (B : Int) (C : Int) rn)], .int .i64 (mE 7 F (B : Int) (C : Int))]) ∧ w.grownBy w' none := by
  have eK : mK 7 F (B : Int) (C : Int) rk = 1 := rfl
  have eN : mN 7 F (B : Int) (C : Int) rn = oneI (sameB (rK F B) (rN F B) (rK F C) (rN F C)) := rfl
  have eE : mE 7 F (B : Int) (C : Int) = 0 := rfl
  rw [eK, eN, eE]
  clear eK eN eE
  have hx : (rgv F)[B * 2]? = some (.int .i64 (rK F B)) := rgv_get F (by omega)
  have hy : (rgv F)[B * 2 + 1]? = some (.int .i64 (rN F B)) := rgv_get F (by omega)
  have hu : (rgv F)[C * 2]? = some (.int .i64 (rK F C)) := rgv_get F (by omega)
  have hv : (rgv F)[C * 2 + 1]? = some (.int .i64 (rN F C)) := rgv_get F (by omega)
  have hBi : (B : Int) < 8 := by omega
  have hCi : (C : Int) < 8 := by omega
  generalize rK F B = x at *
  generalize rN F B = y at *
  generalize rK F C = u at *
  generalize rN F C = v at *
  have hR := rgv_size F
  generalize rgv F = R at *
  have b0 : Hid (Blk ((((w.alloc (.cells R 25)).alloc (.cells #[.int .i64 7, .int .i64 A, .int .i64 (B : Int), .int .i64 (C : Int)] 28)).alloc (.cells #[.int .i64 rk, .int .i64 rn] 24)).alloc (.cells #[.int .i64 0, .int .i64 0] 24)) (w.heap.size) R 25) := Lib.hid (by have h := (((Blk.new w R 25).keepn (g_alloc (g_refl (w.alloc (.cells R 25)) none) (.cells #[.int .i64 7, .int .i64 A, .int .i64 (B : Int), .int .i64 (C : Int)] 28))).keepn (g_alloc (g_refl ((w.alloc (.cells R 25)).alloc (.cells #[.int .i64 7, .int .i64 A, .int .i64 (B : Int), .int .i64 (C : Int)] 28)) none) (.cells #[.int .i64 rk, .int .i64 rn] 24))).keepn (g_alloc (g_refl (((w.alloc (.cells R 25)).alloc (.cells #[.int .i64 7, .int .i64 A, .int .i64 (B : Int), .int .i64 (C : Int)] 28)).alloc (.cells #[.int .i64 rk, .int .i64 rn] 24)) none) (.cells #[.int .i64 0, .int .i64 0] 24)); simpa using h)
  have b1 : Hid (Blk ((((w.alloc (.cells R 25)).alloc (.cells #[.int .i64 7, .int .i64 A, .int .i64 (B : Int), .int .i64 (C : Int)] 28)).alloc (.cells #[.int .i64 rk, .int .i64 rn] 24)).alloc (.cells #[.int .i64 0, .int .i64 0] 24)) (w.heap.size + 1) #[.int .i64 7, .int .i64 A, .int .i64 (B : Int), .int .i64 (C : Int)] 28) := Lib.hid (by have h := ((Blk.new (w.alloc (.cells R 25)) #[.int .i64 7, .int .i64 A, .int .i64 (B : Int), .int .i64 (C : Int)] 28).keepn (g_alloc (g_refl ((w.alloc (.cells R 25)).alloc (.cells #[.int .i64 7, .int .i64 A, .int .i64 (B : Int), .int .i64 (C : Int)] 28)) none) (.cells #[.int .i64 rk, .int .i64 rn] 24))).keepn (g_alloc (g_refl (((w.alloc (.cells R 25)).alloc (.cells #[.int .i64 7, .int .i64 A, .int .i64 (B : Int), .int .i64 (C : Int)] 28)).alloc (.cells #[.int .i64 rk, .int .i64 rn] 24)) none) (.cells #[.int .i64 0, .int .i64 0] 24)); simpa using h)
  have b2 : Hid (Blk ((((w.alloc (.cells R 25)).alloc (.cells #[.int .i64 7, .int .i64 A, .int .i64 (B : Int), .int .i64 (C : Int)] 28)).alloc (.cells #[.int .i64 rk, .int .i64 rn] 24)).alloc (.cells #[.int .i64 0, .int .i64 0] 24)) (w.heap.size + 1 + 1) #[.int .i64 rk, .int .i64 rn] 24) := Lib.hid (by have h := (Blk.new ((w.alloc (.cells R 25)).alloc (.cells #[.int .i64 7, .int .i64 A, .int .i64 (B : Int), .int .i64 (C : Int)] 28)) #[.int .i64 rk, .int .i64 rn] 24).keepn (g_alloc (g_refl (((w.alloc (.cells R 25)).alloc (.cells #[.int .i64 7, .int .i64 A, .int .i64 (B : Int), .int .i64 (C : Int)] 28)).alloc (.cells #[.int .i64 rk, .int .i64 rn] 24)) none) (.cells #[.int .i64 0, .int .i64 0] 24)); simpa using h)
  have b3 : Hid (Blk ((((w.alloc (.cells R 25)).alloc (.cells #[.int .i64 7, .int .i64 A, .int .i64 (B : Int), .int .i64 (C : Int)] 28)).alloc (.cells #[.int .i64 rk, .int .i64 rn] 24)).alloc (.cells #[.int .i64 0, .int .i64 0] 24)) (w.heap.size + 1 + 1 + 1) #[.int .i64 0, .int .i64 0] 24) := Lib.hid (by have h := Blk.new (((w.alloc (.cells R 25)).alloc (.cells #[.int .i64 7, .int .i64 A, .int .i64 (B : Int), .int .i64 (C : Int)] 28)).alloc (.cells #[.int .i64 rk, .int .i64 rn] 24)) #[.int .i64 0, .int .i64 0] 24; simpa using h)
  have bA := g_alloc (g_alloc (g_alloc (g_alloc (g_refl w none) (.cells R 25)) (.cells #[.int .i64 7, .int .i64 A, .int .i64 (B : Int), .int .i64 (C : Int)] 28)) (.cells #[.int .i64 rk, .int .i64 rn] 24)) (.cells #[.int .i64 0, .int .i64 0] 24)
  have hc := equal_any x y u v
  generalize oneI (sameB x y u v) = q at *
  have HC := Lib.hid hc
  clear hc
  go_enter Try.func21, Try.ntmps21
  go_wp2_with fail
  generalize (((((w.alloc (.cells R 25)).alloc (.cells #[.int .i64 7, .int .i64 A, .int .i64 (B : Int), .int .i64 (C : Int)] 28)).alloc (.cells #[.int .i64 rk, .int .i64 rn] 24)).alloc (.cells #[.int .i64 0, .int .i64 0] 24))) = W3 at *
  have KS : Hid (∀ W', W3.grownBy W' (some (w.heap.size + 1 + 1 + 1)) → (∃ X, X.size = 2 ∧ Blk W' (w.heap.size + 1 + 1 + 1) X 24) → W3.grownBy W' (some (w.heap.size + 1 + 1 + 1)) ∧ (∃ X, X.size = 2 ∧ Blk W' (w.heap.size + 1 + 1 + 1) X 24) ∧ W'.cell? ⟨w.heap.size + 1 + 1 + 1, 0, none⟩ = some (cv W' ⟨w.heap.size + 1 + 1 + 1, 0, none⟩) ∧ W'.cell? ⟨w.heap.size + 1 + 1 + 1, 1, none⟩ = some (cv W' ⟨w.heap.size + 1 + 1 + 1, 1, none⟩) ∧ W'.frozen? ⟨w.heap.size + 1 + 1 + 1, 0, none⟩ = false ∧ W'.frozen? ⟨w.heap.size + 1 + 1 + 1, 1, none⟩ = false ∧ W'.cell? ⟨w.heap.size, B * 2, none⟩ = some (.int .i64 x) ∧ W'.cell? ⟨w.heap.size, B * 2 + 1, none⟩ = some (.int .i64 y) ∧ W'.cell? ⟨w.heap.size, C * 2, none⟩ = some (.int .i64 u) ∧ W'.cell? ⟨w.heap.size, C * 2 + 1, none⟩ = some (.int .i64 v) ∧ W'.cell? ⟨w.heap.size + 1, 2, none⟩ = some (.int .i64 B) ∧ W'.cell? ⟨w.heap.size + 1, 3, none⟩ = some (.int .i64 C)) := Lib.hid (fun W' g hX => ⟨g, hX, by obtain ⟨X, h1, h2⟩ := hX; exact cv_eq h2 (by omega), by obtain ⟨X, h1, h2⟩ := hX; exact cv_eq h2 (by omega), by obtain ⟨X, h1, h2⟩ := hX; exact h2.free 0, by obtain ⟨X, h1, h2⟩ := hX; exact h2.free 1, (b0.out.keeps g (by omega)).cell _ _ hx, (b0.out.keeps g (by omega)).cell _ _ hy, (b0.out.keeps g (by omega)).cell _ _ hu, (b0.out.keeps g (by omega)).cell _ _ hv, (b1.out.keeps g (by omega)).cell 2 _ rfl, (b1.out.keeps g (by omega)).cell 3 _ rfl⟩)
  have KT : Hid (∀ W' p q, W3.grownBy W' (some (w.heap.size + 1 + 1 + 1)) ∧ (∃ X, X.size = 2 ∧ Blk W' (w.heap.size + 1 + 1 + 1) X 24) → W3.grownBy ((W'.setCell ⟨w.heap.size + 1 + 1 + 1, 0, none⟩ p).setCell ⟨w.heap.size + 1 + 1 + 1, 1, none⟩ q) (some (w.heap.size + 1 + 1 + 1)) ∧ (∃ X, X.size = 2 ∧ Blk ((W'.setCell ⟨w.heap.size + 1 + 1 + 1, 0, none⟩ p).setCell ⟨w.heap.size + 1 + 1 + 1, 1, none⟩ q) (w.heap.size + 1 + 1 + 1) X 24)) := Lib.hid (fun W' p q h => ⟨g_set (g_set h.1 (.inl rfl) p) (.inl rfl) q, by obtain ⟨X, h1, h2⟩ := h.2; exact ⟨_, by simpa using h1, (h2.set 0 p).set 1 q⟩⟩)
  have B3 : Hid (∃ X, X.size = 2 ∧ Blk W3 (w.heap.size + 1 + 1 + 1) X 24) := Lib.hid ⟨_, rfl, b3.out⟩
  clear hx hy hu hv hR b0 b1 b2
  go_region_held3 (fun W' => W3.grownBy W' (some (w.heap.size + 1 + 1 + 1)) ∧ (∃ X, X.size = 2 ∧ Blk W' (w.heap.size + 1 + 1 + 1) X 24) ∧ W'.cell? ⟨w.heap.size + 1 + 1 + 1, 0, none⟩ = some (cv W' ⟨w.heap.size + 1 + 1 + 1, 0, none⟩) ∧ W'.cell? ⟨w.heap.size + 1 + 1 + 1, 1, none⟩ = some (cv W' ⟨w.heap.size + 1 + 1 + 1, 1, none⟩) ∧ W'.frozen? ⟨w.heap.size + 1 + 1 + 1, 0, none⟩ = false ∧ W'.frozen? ⟨w.heap.size + 1 + 1 + 1, 1, none⟩ = false ∧ W'.cell? ⟨w.heap.size, B * 2, none⟩ = some (.int .i64 x) ∧ W'.cell? ⟨w.heap.size, B * 2 + 1, none⟩ = some (.int .i64 y) ∧ W'.cell? ⟨w.heap.size, C * 2, none⟩ = some (.int .i64 u) ∧ W'.cell? ⟨w.heap.size, C * 2 + 1, none⟩ = some (.int .i64 v) ∧ W'.cell? ⟨w.heap.size + 1, 2, none⟩ = some (.int .i64 B) ∧ W'.cell? ⟨w.heap.size + 1, 3, none⟩ = some (.int .i64 C)) (first | exact KS.out _ (g_drew (g_refl _ _)) B3.out | exact KS.out _ gZ hZ | (obtain ⟨gy, hyX, _⟩ := (by assumption : _ ∧ (∃ X, X.size = 2 ∧ Blk _ (w.heap.size + 1 + 1 + 1) X 24) ∧ _); exact KS.out _ (KT.out _ _ _ ⟨gy, hyX⟩).1 (KT.out _ _ _ ⟨gy, hyX⟩).2) | (obtain ⟨gy, hyX, _⟩ := (by assumption : _ ∧ (∃ X, X.size = 2 ∧ Blk _ (w.heap.size + 1 + 1 + 1) X 24) ∧ _); exact KS.out _ gy hyX)) (first | (go_at_call 35; refine Calls.mono (HC.out _) ?_; rintro e wa ⟨rfl, ga⟩; obtain ⟨gy, ⟨XX, hXX, hbX⟩, _⟩ := (by assumption : _ ∧ (∃ X, X.size = 2 ∧ Blk _ (w.heap.size + 1 + 1 + 1) X 24) ∧ _); have gZ := g_then gy ga; have hZ : ∃ X, X.size = 2 ∧ Blk wa (w.heap.size + 1 + 1 + 1) X 24 := ⟨XX, hXX, hbX.keepn ga⟩))
  have rr := ((hbX.keepn ga).set 0 (.int .i64 (1))).set 1 (.int .i64 (q))
  have r0 := rr.cell 0 (.int .i64 (1)) (by simp [hXX])
  have r1 := rr.cell 1 (.int .i64 (q)) (by simp [hXX])
  have gE := g_set (g_set gZ (p := ⟨w.heap.size + 1 + 1 + 1, 0, none⟩) (.inl rfl) (.int .i64 (1))) (p := ⟨w.heap.size + 1 + 1 + 1, 1, none⟩) (.inl rfl) (.int .i64 (q))
  go_wp2_with fail
  exact bodyPost_ret (v := .tuple #[.agg #[.int .i64 (1), .int .i64 (q)], .int .i64 (0)]) (by simp [results, Try.results21, go_sem, r0, r1]) rfl ⟨rfl, g_in bA gE (by omega)⟩

set_option maxHeartbeats 1600000 in
theorem made_10 (F : Nat → Int) (A rk rn : Int) (B : Int) (C : Int) (w : World) : Calls Try.prog 21 #[.agg (rgv F), .agg #[.int .i64 10, .int .i64 A, .int .i64 B, .int .i64 C], .agg #[.int .i64 rk, .int .i64 rn]] w fun e w' => e = .returned (.tuple #[.agg #[.int .i64 (mK 10 F B C rk), .int .i64 (mN 10 F B C rn)], .int .i64 (mE 10 F B C)]) ∧ w.grownBy w' none := by
  have eK : mK 10 F B C rk = rk := rfl
  have eN : mN 10 F B C rn = rn := rfl
  have eE : mE 10 F B C = 0 := rfl
  rw [eK, eN, eE]
  clear eK eN eE
  have hR := rgv_size F
  generalize rgv F = R at *
  have b0 : Hid (Blk ((((w.alloc (.cells R 25)).alloc (.cells #[.int .i64 10, .int .i64 A, .int .i64 B, .int .i64 C] 28)).alloc (.cells #[.int .i64 rk, .int .i64 rn] 24)).alloc (.cells #[.int .i64 0, .int .i64 0] 24)) (w.heap.size) R 25) := Lib.hid (by have h := (((Blk.new w R 25).keepn (g_alloc (g_refl (w.alloc (.cells R 25)) none) (.cells #[.int .i64 10, .int .i64 A, .int .i64 B, .int .i64 C] 28))).keepn (g_alloc (g_refl ((w.alloc (.cells R 25)).alloc (.cells #[.int .i64 10, .int .i64 A, .int .i64 B, .int .i64 C] 28)) none) (.cells #[.int .i64 rk, .int .i64 rn] 24))).keepn (g_alloc (g_refl (((w.alloc (.cells R 25)).alloc (.cells #[.int .i64 10, .int .i64 A, .int .i64 B, .int .i64 C] 28)).alloc (.cells #[.int .i64 rk, .int .i64 rn] 24)) none) (.cells #[.int .i64 0, .int .i64 0] 24)); simpa using h)
  have b1 : Hid (Blk ((((w.alloc (.cells R 25)).alloc (.cells #[.int .i64 10, .int .i64 A, .int .i64 B, .int .i64 C] 28)).alloc (.cells #[.int .i64 rk, .int .i64 rn] 24)).alloc (.cells #[.int .i64 0, .int .i64 0] 24)) (w.heap.size + 1) #[.int .i64 10, .int .i64 A, .int .i64 B, .int .i64 C] 28) := Lib.hid (by have h := ((Blk.new (w.alloc (.cells R 25)) #[.int .i64 10, .int .i64 A, .int .i64 B, .int .i64 C] 28).keepn (g_alloc (g_refl ((w.alloc (.cells R 25)).alloc (.cells #[.int .i64 10, .int .i64 A, .int .i64 B, .int .i64 C] 28)) none) (.cells #[.int .i64 rk, .int .i64 rn] 24))).keepn (g_alloc (g_refl (((w.alloc (.cells R 25)).alloc (.cells #[.int .i64 10, .int .i64 A, .int .i64 B, .int .i64 C] 28)).alloc (.cells #[.int .i64 rk, .int .i64 rn] 24)) none) (.cells #[.int .i64 0, .int .i64 0] 24)); simpa using h)
  have b2 : Hid (Blk ((((w.alloc (.cells R 25)).alloc (.cells #[.int .i64 10, .int .i64 A, .int .i64 B, .int .i64 C] 28)).alloc (.cells #[.int .i64 rk, .int .i64 rn] 24)).alloc (.cells #[.int .i64 0, .int .i64 0] 24)) (w.heap.size + 1 + 1) #[.int .i64 rk, .int .i64 rn] 24) := Lib.hid (by have h := (Blk.new ((w.alloc (.cells R 25)).alloc (.cells #[.int .i64 10, .int .i64 A, .int .i64 B, .int .i64 C] 28)) #[.int .i64 rk, .int .i64 rn] 24).keepn (g_alloc (g_refl (((w.alloc (.cells R 25)).alloc (.cells #[.int .i64 10, .int .i64 A, .int .i64 B, .int .i64 C] 28)).alloc (.cells #[.int .i64 rk, .int .i64 rn] 24)) none) (.cells #[.int .i64 0, .int .i64 0] 24)); simpa using h)
  have b3 : Hid (Blk ((((w.alloc (.cells R 25)).alloc (.cells #[.int .i64 10, .int .i64 A, .int .i64 B, .int .i64 C] 28)).alloc (.cells #[.int .i64 rk, .int .i64 rn] 24)).alloc (.cells #[.int .i64 0, .int .i64 0] 24)) (w.heap.size + 1 + 1 + 1) #[.int .i64 0, .int .i64 0] 24) := Lib.hid (by have h := Blk.new (((w.alloc (.cells R 25)).alloc (.cells #[.int .i64 10, .int .i64 A, .int .i64 B, .int .i64 C] 28)).alloc (.cells #[.int .i64 rk, .int .i64 rn] 24)) #[.int .i64 0, .int .i64 0] 24; simpa using h)
  have bA := g_alloc (g_alloc (g_alloc (g_alloc (g_refl w none) (.cells R 25)) (.cells #[.int .i64 10, .int .i64 A, .int .i64 B, .int .i64 C] 28)) (.cells #[.int .i64 rk, .int .i64 rn] 24)) (.cells #[.int .i64 0, .int .i64 0] 24)
  go_enter Try.func21, Try.ntmps21
  go_wp2_with fail
  exact bodyPost_ret (v := .tuple #[.agg #[.int .i64 rk, .int .i64 rn], .int .i64 0]) (by simp [results, Try.results21, go_sem]) rfl ⟨rfl, g_alloc (g_alloc (g_alloc (g_alloc (g_refl _ _) _) _) _) _⟩

set_option maxHeartbeats 1600000 in
theorem rmade_1 (F : Nat → Int) (A rk rn : Int) (B : Int) (C : Int) (w : World) : Calls Try.prog 25 #[.agg (rgv F), .agg #[.int .i64 1, .int .i64 A, .int .i64 B, .int .i64 C], .agg #[.int .i64 rk, .int .i64 rn]] w fun e w' => e = .returned (.tuple #[.agg #[.int .i64 (mK 1 F B C rk), .int .i64 (mN 1 F B C rn)], .int .i64 (mE 1 F B C)]) ∧ w.grownBy w' none := by
  have eK : mK 1 F B C rk = 1 := rfl
  have eN : mN 1 F B C rn = B := rfl
  have eE : mE 1 F B C = 0 := rfl
  rw [eK, eN, eE]
  clear eK eN eE
  have hR := rgv_size F
  generalize rgv F = R at *
  have b0 : Hid (Blk ((((w.alloc (.cells R 25)).alloc (.cells #[.int .i64 1, .int .i64 A, .int .i64 B, .int .i64 C] 28)).alloc (.cells #[.int .i64 rk, .int .i64 rn] 24)).alloc (.cells #[.int .i64 0, .int .i64 0] 24)) (w.heap.size) R 25) := Lib.hid (by have h := (((Blk.new w R 25).keepn (g_alloc (g_refl (w.alloc (.cells R 25)) none) (.cells #[.int .i64 1, .int .i64 A, .int .i64 B, .int .i64 C] 28))).keepn (g_alloc (g_refl ((w.alloc (.cells R 25)).alloc (.cells #[.int .i64 1, .int .i64 A, .int .i64 B, .int .i64 C] 28)) none) (.cells #[.int .i64 rk, .int .i64 rn] 24))).keepn (g_alloc (g_refl (((w.alloc (.cells R 25)).alloc (.cells #[.int .i64 1, .int .i64 A, .int .i64 B, .int .i64 C] 28)).alloc (.cells #[.int .i64 rk, .int .i64 rn] 24)) none) (.cells #[.int .i64 0, .int .i64 0] 24)); simpa using h)
  have b1 : Hid (Blk ((((w.alloc (.cells R 25)).alloc (.cells #[.int .i64 1, .int .i64 A, .int .i64 B, .int .i64 C] 28)).alloc (.cells #[.int .i64 rk, .int .i64 rn] 24)).alloc (.cells #[.int .i64 0, .int .i64 0] 24)) (w.heap.size + 1) #[.int .i64 1, .int .i64 A, .int .i64 B, .int .i64 C] 28) := Lib.hid (by have h := ((Blk.new (w.alloc (.cells R 25)) #[.int .i64 1, .int .i64 A, .int .i64 B, .int .i64 C] 28).keepn (g_alloc (g_refl ((w.alloc (.cells R 25)).alloc (.cells #[.int .i64 1, .int .i64 A, .int .i64 B, .int .i64 C] 28)) none) (.cells #[.int .i64 rk, .int .i64 rn] 24))).keepn (g_alloc (g_refl (((w.alloc (.cells R 25)).alloc (.cells #[.int .i64 1, .int .i64 A, .int .i64 B, .int .i64 C] 28)).alloc (.cells #[.int .i64 rk, .int .i64 rn] 24)) none) (.cells #[.int .i64 0, .int .i64 0] 24)); simpa using h)
  have b2 : Hid (Blk ((((w.alloc (.cells R 25)).alloc (.cells #[.int .i64 1, .int .i64 A, .int .i64 B, .int .i64 C] 28)).alloc (.cells #[.int .i64 rk, .int .i64 rn] 24)).alloc (.cells #[.int .i64 0, .int .i64 0] 24)) (w.heap.size + 1 + 1) #[.int .i64 rk, .int .i64 rn] 24) := Lib.hid (by have h := (Blk.new ((w.alloc (.cells R 25)).alloc (.cells #[.int .i64 1, .int .i64 A, .int .i64 B, .int .i64 C] 28)) #[.int .i64 rk, .int .i64 rn] 24).keepn (g_alloc (g_refl (((w.alloc (.cells R 25)).alloc (.cells #[.int .i64 1, .int .i64 A, .int .i64 B, .int .i64 C] 28)).alloc (.cells #[.int .i64 rk, .int .i64 rn] 24)) none) (.cells #[.int .i64 0, .int .i64 0] 24)); simpa using h)
  have b3 : Hid (Blk ((((w.alloc (.cells R 25)).alloc (.cells #[.int .i64 1, .int .i64 A, .int .i64 B, .int .i64 C] 28)).alloc (.cells #[.int .i64 rk, .int .i64 rn] 24)).alloc (.cells #[.int .i64 0, .int .i64 0] 24)) (w.heap.size + 1 + 1 + 1) #[.int .i64 0, .int .i64 0] 24) := Lib.hid (by have h := Blk.new (((w.alloc (.cells R 25)).alloc (.cells #[.int .i64 1, .int .i64 A, .int .i64 B, .int .i64 C] 28)).alloc (.cells #[.int .i64 rk, .int .i64 rn] 24)) #[.int .i64 0, .int .i64 0] 24; simpa using h)
  have bA := g_alloc (g_alloc (g_alloc (g_alloc (g_refl w none) (.cells R 25)) (.cells #[.int .i64 1, .int .i64 A, .int .i64 B, .int .i64 C] 28)) (.cells #[.int .i64 rk, .int .i64 rn] 24)) (.cells #[.int .i64 0, .int .i64 0] 24)
  have hc := rnum_any B
  go_enter Try.func25, Try.ntmps25
  go_wp2_with fail
  refine (hc _).mono ?_
  rintro e w1 ⟨rfl, g1⟩
  clear hc
  have d3 := Lib.hid (b3.out.keepn g1)
  have d3_0 := d3.out.cell 0 (.int .i64 0) rfl
  have d3_1 := d3.out.cell 1 (.int .i64 0) rfl
  have df3_0 := d3.out.free 0
  have df3_1 := d3.out.free 1
  go_wp2_with fail
  have rr := (d3.out.set 0 (.int .i64 (1))).set 1 (.int .i64 (B))
  have r0 := rr.cell 0 (.int .i64 (1)) rfl
  have r1 := rr.cell 1 (.int .i64 (B)) rfl
  exact bodyPost_ret (v := .tuple #[.agg #[.int .i64 (1), .int .i64 (B)], .int .i64 (0)]) (by simp [results, Try.results25, go_sem, r0, r1]) rfl ⟨rfl, g_in (g_trans bA g1) (g_set (g_set (g_refl w1 (some (w.heap.size + 1 + 1 + 1))) (p := ⟨w.heap.size + 1 + 1 + 1, 0, none⟩) (.inl rfl) _) (p := ⟨w.heap.size + 1 + 1 + 1, 1, none⟩) (.inl rfl) _) (by omega)⟩

set_option maxHeartbeats 1600000 in
theorem rmade_2 (F : Nat → Int) (A rk rn : Int) (B : Int) (C : Int) (w : World) : Calls Try.prog 25 #[.agg (rgv F), .agg #[.int .i64 2, .int .i64 A, .int .i64 B, .int .i64 C], .agg #[.int .i64 rk, .int .i64 rn]] w fun e w' => e = .returned (.tuple #[.agg #[.int .i64 (mK 2 F B C rk), .int .i64 (mN 2 F B C rn)], .int .i64 (mE 2 F B C)]) ∧ w.grownBy w' none := by
  have eK : mK 2 F B C rk = 2 := rfl
  have eN : mN 2 F B C rn = 0 := rfl
  have eE : mE 2 F B C = 0 := rfl
  rw [eK, eN, eE]
  clear eK eN eE
  have hR := rgv_size F
  generalize rgv F = R at *
  have b0 : Hid (Blk ((((w.alloc (.cells R 25)).alloc (.cells #[.int .i64 2, .int .i64 A, .int .i64 B, .int .i64 C] 28)).alloc (.cells #[.int .i64 rk, .int .i64 rn] 24)).alloc (.cells #[.int .i64 0, .int .i64 0] 24)) (w.heap.size) R 25) := Lib.hid (by have h := (((Blk.new w R 25).keepn (g_alloc (g_refl (w.alloc (.cells R 25)) none) (.cells #[.int .i64 2, .int .i64 A, .int .i64 B, .int .i64 C] 28))).keepn (g_alloc (g_refl ((w.alloc (.cells R 25)).alloc (.cells #[.int .i64 2, .int .i64 A, .int .i64 B, .int .i64 C] 28)) none) (.cells #[.int .i64 rk, .int .i64 rn] 24))).keepn (g_alloc (g_refl (((w.alloc (.cells R 25)).alloc (.cells #[.int .i64 2, .int .i64 A, .int .i64 B, .int .i64 C] 28)).alloc (.cells #[.int .i64 rk, .int .i64 rn] 24)) none) (.cells #[.int .i64 0, .int .i64 0] 24)); simpa using h)
  have b1 : Hid (Blk ((((w.alloc (.cells R 25)).alloc (.cells #[.int .i64 2, .int .i64 A, .int .i64 B, .int .i64 C] 28)).alloc (.cells #[.int .i64 rk, .int .i64 rn] 24)).alloc (.cells #[.int .i64 0, .int .i64 0] 24)) (w.heap.size + 1) #[.int .i64 2, .int .i64 A, .int .i64 B, .int .i64 C] 28) := Lib.hid (by have h := ((Blk.new (w.alloc (.cells R 25)) #[.int .i64 2, .int .i64 A, .int .i64 B, .int .i64 C] 28).keepn (g_alloc (g_refl ((w.alloc (.cells R 25)).alloc (.cells #[.int .i64 2, .int .i64 A, .int .i64 B, .int .i64 C] 28)) none) (.cells #[.int .i64 rk, .int .i64 rn] 24))).keepn (g_alloc (g_refl (((w.alloc (.cells R 25)).alloc (.cells #[.int .i64 2, .int .i64 A, .int .i64 B, .int .i64 C] 28)).alloc (.cells #[.int .i64 rk, .int .i64 rn] 24)) none) (.cells #[.int .i64 0, .int .i64 0] 24)); simpa using h)
  have b2 : Hid (Blk ((((w.alloc (.cells R 25)).alloc (.cells #[.int .i64 2, .int .i64 A, .int .i64 B, .int .i64 C] 28)).alloc (.cells #[.int .i64 rk, .int .i64 rn] 24)).alloc (.cells #[.int .i64 0, .int .i64 0] 24)) (w.heap.size + 1 + 1) #[.int .i64 rk, .int .i64 rn] 24) := Lib.hid (by have h := (Blk.new ((w.alloc (.cells R 25)).alloc (.cells #[.int .i64 2, .int .i64 A, .int .i64 B, .int .i64 C] 28)) #[.int .i64 rk, .int .i64 rn] 24).keepn (g_alloc (g_refl (((w.alloc (.cells R 25)).alloc (.cells #[.int .i64 2, .int .i64 A, .int .i64 B, .int .i64 C] 28)).alloc (.cells #[.int .i64 rk, .int .i64 rn] 24)) none) (.cells #[.int .i64 0, .int .i64 0] 24)); simpa using h)
  have b3 : Hid (Blk ((((w.alloc (.cells R 25)).alloc (.cells #[.int .i64 2, .int .i64 A, .int .i64 B, .int .i64 C] 28)).alloc (.cells #[.int .i64 rk, .int .i64 rn] 24)).alloc (.cells #[.int .i64 0, .int .i64 0] 24)) (w.heap.size + 1 + 1 + 1) #[.int .i64 0, .int .i64 0] 24) := Lib.hid (by have h := Blk.new (((w.alloc (.cells R 25)).alloc (.cells #[.int .i64 2, .int .i64 A, .int .i64 B, .int .i64 C] 28)).alloc (.cells #[.int .i64 rk, .int .i64 rn] 24)) #[.int .i64 0, .int .i64 0] 24; simpa using h)
  have bA := g_alloc (g_alloc (g_alloc (g_alloc (g_refl w none) (.cells R 25)) (.cells #[.int .i64 2, .int .i64 A, .int .i64 B, .int .i64 C] 28)) (.cells #[.int .i64 rk, .int .i64 rn] 24)) (.cells #[.int .i64 0, .int .i64 0] 24)
  have hc := rnil_any 
  go_enter Try.func25, Try.ntmps25
  go_wp2_with fail
  refine (hc _).mono ?_
  rintro e w1 ⟨rfl, g1⟩
  clear hc
  have d3 := Lib.hid (b3.out.keepn g1)
  have d3_0 := d3.out.cell 0 (.int .i64 0) rfl
  have d3_1 := d3.out.cell 1 (.int .i64 0) rfl
  have df3_0 := d3.out.free 0
  have df3_1 := d3.out.free 1
  go_wp2_with fail
  have rr := (d3.out.set 0 (.int .i64 (2))).set 1 (.int .i64 (0))
  have r0 := rr.cell 0 (.int .i64 (2)) rfl
  have r1 := rr.cell 1 (.int .i64 (0)) rfl
  exact bodyPost_ret (v := .tuple #[.agg #[.int .i64 (2), .int .i64 (0)], .int .i64 (0)]) (by simp [results, Try.results25, go_sem, r0, r1]) rfl ⟨rfl, g_in (g_trans bA g1) (g_set (g_set (g_refl w1 (some (w.heap.size + 1 + 1 + 1))) (p := ⟨w.heap.size + 1 + 1 + 1, 0, none⟩) (.inl rfl) _) (p := ⟨w.heap.size + 1 + 1 + 1, 1, none⟩) (.inl rfl) _) (by omega)⟩

set_option maxHeartbeats 1600000 in
theorem rmade_3 (F : Nat → Int) (A rk rn : Int) (B : Nat) (C : Int) (hB : B < 8) (w : World) : Calls Try.prog 25 #[.agg (rgv F), .agg #[.int .i64 3, .int .i64 A, .int .i64 (B : Int), .int .i64 C], .agg #[.int .i64 rk, .int .i64 rn]] w fun e w' => e = .returned (.tuple #[.agg #[.int .i64 (mK 3 F (B : Int) C rk), .int .i64 (mN 3 F (B : Int) C rn)], .int .i64 (mE 3 F (B : Int) C)]) ∧ w.grownBy w' none := by
  have eK : mK 3 F (B : Int) C rk = rK F B := rfl
  have eN : mN 3 F (B : Int) C rn = rN F B := rfl
  have eE : mE 3 F (B : Int) C = 0 := rfl
  rw [eK, eN, eE]
  clear eK eN eE
  have hx : (rgv F)[B * 2]? = some (.int .i64 (rK F B)) := rgv_get F (by omega)
  have hy : (rgv F)[B * 2 + 1]? = some (.int .i64 (rN F B)) := rgv_get F (by omega)
  have hBi : (B : Int) < 8 := by omega
  generalize rK F B = x at *
  generalize rN F B = y at *
  have hR := rgv_size F
  generalize rgv F = R at *
  have b0 : Hid (Blk ((((w.alloc (.cells R 25)).alloc (.cells #[.int .i64 3, .int .i64 A, .int .i64 (B : Int), .int .i64 C] 28)).alloc (.cells #[.int .i64 rk, .int .i64 rn] 24)).alloc (.cells #[.int .i64 0, .int .i64 0] 24)) (w.heap.size) R 25) := Lib.hid (by have h := (((Blk.new w R 25).keepn (g_alloc (g_refl (w.alloc (.cells R 25)) none) (.cells #[.int .i64 3, .int .i64 A, .int .i64 (B : Int), .int .i64 C] 28))).keepn (g_alloc (g_refl ((w.alloc (.cells R 25)).alloc (.cells #[.int .i64 3, .int .i64 A, .int .i64 (B : Int), .int .i64 C] 28)) none) (.cells #[.int .i64 rk, .int .i64 rn] 24))).keepn (g_alloc (g_refl (((w.alloc (.cells R 25)).alloc (.cells #[.int .i64 3, .int .i64 A, .int .i64 (B : Int), .int .i64 C] 28)).alloc (.cells #[.int .i64 rk, .int .i64 rn] 24)) none) (.cells #[.int .i64 0, .int .i64 0] 24)); simpa using h)
  have b1 : Hid (Blk ((((w.alloc (.cells R 25)).alloc (.cells #[.int .i64 3, .int .i64 A, .int .i64 (B : Int), .int .i64 C] 28)).alloc (.cells #[.int .i64 rk, .int .i64 rn] 24)).alloc (.cells #[.int .i64 0, .int .i64 0] 24)) (w.heap.size + 1) #[.int .i64 3, .int .i64 A, .int .i64 (B : Int), .int .i64 C] 28) := Lib.hid (by have h := ((Blk.new (w.alloc (.cells R 25)) #[.int .i64 3, .int .i64 A, .int .i64 (B : Int), .int .i64 C] 28).keepn (g_alloc (g_refl ((w.alloc (.cells R 25)).alloc (.cells #[.int .i64 3, .int .i64 A, .int .i64 (B : Int), .int .i64 C] 28)) none) (.cells #[.int .i64 rk, .int .i64 rn] 24))).keepn (g_alloc (g_refl (((w.alloc (.cells R 25)).alloc (.cells #[.int .i64 3, .int .i64 A, .int .i64 (B : Int), .int .i64 C] 28)).alloc (.cells #[.int .i64 rk, .int .i64 rn] 24)) none) (.cells #[.int .i64 0, .int .i64 0] 24)); simpa using h)
  have b2 : Hid (Blk ((((w.alloc (.cells R 25)).alloc (.cells #[.int .i64 3, .int .i64 A, .int .i64 (B : Int), .int .i64 C] 28)).alloc (.cells #[.int .i64 rk, .int .i64 rn] 24)).alloc (.cells #[.int .i64 0, .int .i64 0] 24)) (w.heap.size + 1 + 1) #[.int .i64 rk, .int .i64 rn] 24) := Lib.hid (by have h := (Blk.new ((w.alloc (.cells R 25)).alloc (.cells #[.int .i64 3, .int .i64 A, .int .i64 (B : Int), .int .i64 C] 28)) #[.int .i64 rk, .int .i64 rn] 24).keepn (g_alloc (g_refl (((w.alloc (.cells R 25)).alloc (.cells #[.int .i64 3, .int .i64 A, .int .i64 (B : Int), .int .i64 C] 28)).alloc (.cells #[.int .i64 rk, .int .i64 rn] 24)) none) (.cells #[.int .i64 0, .int .i64 0] 24)); simpa using h)
  have b3 : Hid (Blk ((((w.alloc (.cells R 25)).alloc (.cells #[.int .i64 3, .int .i64 A, .int .i64 (B : Int), .int .i64 C] 28)).alloc (.cells #[.int .i64 rk, .int .i64 rn] 24)).alloc (.cells #[.int .i64 0, .int .i64 0] 24)) (w.heap.size + 1 + 1 + 1) #[.int .i64 0, .int .i64 0] 24) := Lib.hid (by have h := Blk.new (((w.alloc (.cells R 25)).alloc (.cells #[.int .i64 3, .int .i64 A, .int .i64 (B : Int), .int .i64 C] 28)).alloc (.cells #[.int .i64 rk, .int .i64 rn] 24)) #[.int .i64 0, .int .i64 0] 24; simpa using h)
  have bA := g_alloc (g_alloc (g_alloc (g_alloc (g_refl w none) (.cells R 25)) (.cells #[.int .i64 3, .int .i64 A, .int .i64 (B : Int), .int .i64 C] 28)) (.cells #[.int .i64 rk, .int .i64 rn] 24)) (.cells #[.int .i64 0, .int .i64 0] 24)
  go_enter Try.func25, Try.ntmps25
  go_wp2_with fail
  exact bodyPost_ret (v := .tuple #[.agg #[.int .i64 x, .int .i64 y], .int .i64 0]) (by simp [results, Try.results25, go_sem]) rfl ⟨rfl, g_alloc (g_alloc (g_alloc (g_alloc (g_refl _ _) _) _) _) _⟩

set_option maxHeartbeats 1600000 in
theorem rmade_4 (F : Nat → Int) (A rk rn : Int) (B : Nat) (C : Nat) (hB : B < 8) (hC : C < 8) (w : World) : Calls Try.prog 25 #[.agg (rgv F), .agg #[.int .i64 4, .int .i64 A, .int .i64 (B : Int), .int .i64 (C : Int)], .agg #[.int .i64 rk, .int .i64 rn]] w fun e w' => e = .returned (.tuple #[.agg #[.int .i64 (mK 4 F (B : Int) (C : Int) rk), .int .i64 (mN 4 F (B : Int) (C : Int) rn)], .int .i64 (mE 4 F (B : Int) (C : Int))]) ∧ w.grownBy w' none := by
  have eK : mK 4 F (B : Int) (C : Int) rk = nK (rK F B) (rK F C) := rfl
  have eN : mN 4 F (B : Int) (C : Int) rn = nN (rK F B) (rK F C) (wrap64 (rN F B + rN F C)) := rfl
  have eE : mE 4 F (B : Int) (C : Int) = nE (rK F B) (rK F C) := rfl
  rw [eK, eN, eE]
  clear eK eN eE
  have hx : (rgv F)[B * 2]? = some (.int .i64 (rK F B)) := rgv_get F (by omega)
  have hy : (rgv F)[B * 2 + 1]? = some (.int .i64 (rN F B)) := rgv_get F (by omega)
  have hu : (rgv F)[C * 2]? = some (.int .i64 (rK F C)) := rgv_get F (by omega)
  have hv : (rgv F)[C * 2 + 1]? = some (.int .i64 (rN F C)) := rgv_get F (by omega)
  have hBi : (B : Int) < 8 := by omega
  have hCi : (C : Int) < 8 := by omega
  generalize rK F B = x at *
  generalize rN F B = y at *
  generalize rK F C = u at *
  generalize rN F C = v at *
  have hR := rgv_size F
  generalize rgv F = R at *
  have b0 : Hid (Blk ((((w.alloc (.cells R 25)).alloc (.cells #[.int .i64 4, .int .i64 A, .int .i64 (B : Int), .int .i64 (C : Int)] 28)).alloc (.cells #[.int .i64 rk, .int .i64 rn] 24)).alloc (.cells #[.int .i64 0, .int .i64 0] 24)) (w.heap.size) R 25) := Lib.hid (by have h := (((Blk.new w R 25).keepn (g_alloc (g_refl (w.alloc (.cells R 25)) none) (.cells #[.int .i64 4, .int .i64 A, .int .i64 (B : Int), .int .i64 (C : Int)] 28))).keepn (g_alloc (g_refl ((w.alloc (.cells R 25)).alloc (.cells #[.int .i64 4, .int .i64 A, .int .i64 (B : Int), .int .i64 (C : Int)] 28)) none) (.cells #[.int .i64 rk, .int .i64 rn] 24))).keepn (g_alloc (g_refl (((w.alloc (.cells R 25)).alloc (.cells #[.int .i64 4, .int .i64 A, .int .i64 (B : Int), .int .i64 (C : Int)] 28)).alloc (.cells #[.int .i64 rk, .int .i64 rn] 24)) none) (.cells #[.int .i64 0, .int .i64 0] 24)); simpa using h)
  have b1 : Hid (Blk ((((w.alloc (.cells R 25)).alloc (.cells #[.int .i64 4, .int .i64 A, .int .i64 (B : Int), .int .i64 (C : Int)] 28)).alloc (.cells #[.int .i64 rk, .int .i64 rn] 24)).alloc (.cells #[.int .i64 0, .int .i64 0] 24)) (w.heap.size + 1) #[.int .i64 4, .int .i64 A, .int .i64 (B : Int), .int .i64 (C : Int)] 28) := Lib.hid (by have h := ((Blk.new (w.alloc (.cells R 25)) #[.int .i64 4, .int .i64 A, .int .i64 (B : Int), .int .i64 (C : Int)] 28).keepn (g_alloc (g_refl ((w.alloc (.cells R 25)).alloc (.cells #[.int .i64 4, .int .i64 A, .int .i64 (B : Int), .int .i64 (C : Int)] 28)) none) (.cells #[.int .i64 rk, .int .i64 rn] 24))).keepn (g_alloc (g_refl (((w.alloc (.cells R 25)).alloc (.cells #[.int .i64 4, .int .i64 A, .int .i64 (B : Int), .int .i64 (C : Int)] 28)).alloc (.cells #[.int .i64 rk, .int .i64 rn] 24)) none) (.cells #[.int .i64 0, .int .i64 0] 24)); simpa using h)
  have b2 : Hid (Blk ((((w.alloc (.cells R 25)).alloc (.cells #[.int .i64 4, .int .i64 A, .int .i64 (B : Int), .int .i64 (C : Int)] 28)).alloc (.cells #[.int .i64 rk, .int .i64 rn] 24)).alloc (.cells #[.int .i64 0, .int .i64 0] 24)) (w.heap.size + 1 + 1) #[.int .i64 rk, .int .i64 rn] 24) := Lib.hid (by have h := (Blk.new ((w.alloc (.cells R 25)).alloc (.cells #[.int .i64 4, .int .i64 A, .int .i64 (B : Int), .int .i64 (C : Int)] 28)) #[.int .i64 rk, .int .i64 rn] 24).keepn (g_alloc (g_refl (((w.alloc (.cells R 25)).alloc (.cells #[.int .i64 4, .int .i64 A, .int .i64 (B : Int), .int .i64 (C : Int)] 28)).alloc (.cells #[.int .i64 rk, .int .i64 rn] 24)) none) (.cells #[.int .i64 0, .int .i64 0] 24)); simpa using h)
  have b3 : Hid (Blk ((((w.alloc (.cells R 25)).alloc (.cells #[.int .i64 4, .int .i64 A, .int .i64 (B : Int), .int .i64 (C : Int)] 28)).alloc (.cells #[.int .i64 rk, .int .i64 rn] 24)).alloc (.cells #[.int .i64 0, .int .i64 0] 24)) (w.heap.size + 1 + 1 + 1) #[.int .i64 0, .int .i64 0] 24) := Lib.hid (by have h := Blk.new (((w.alloc (.cells R 25)).alloc (.cells #[.int .i64 4, .int .i64 A, .int .i64 (B : Int), .int .i64 (C : Int)] 28)).alloc (.cells #[.int .i64 rk, .int .i64 rn] 24)) #[.int .i64 0, .int .i64 0] 24; simpa using h)
  have bA := g_alloc (g_alloc (g_alloc (g_alloc (g_refl w none) (.cells R 25)) (.cells #[.int .i64 4, .int .i64 A, .int .i64 (B : Int), .int .i64 (C : Int)] 28)) (.cells #[.int .i64 rk, .int .i64 rn] 24)) (.cells #[.int .i64 0, .int .i64 0] 24)
  have hc := radd_any x y u v
  generalize nK x u = p at *
  generalize nN x u (wrap64 (y + v)) = q at *
  generalize nE x u = z at *
  have HC := Lib.hid hc
  clear hc
  go_enter Try.func25, Try.ntmps25
  go_wp2_with fail
  generalize (((((w.alloc (.cells R 25)).alloc (.cells #[.int .i64 4, .int .i64 A, .int .i64 (B : Int), .int .i64 (C : Int)] 28)).alloc (.cells #[.int .i64 rk, .int .i64 rn] 24)).alloc (.cells #[.int .i64 0, .int .i64 0] 24))) = W3 at *
  have KS : Hid (∀ W', W3.grownBy W' (some (w.heap.size + 1 + 1 + 1)) → (∃ X, X.size = 2 ∧ Blk W' (w.heap.size + 1 + 1 + 1) X 24) → W3.grownBy W' (some (w.heap.size + 1 + 1 + 1)) ∧ (∃ X, X.size = 2 ∧ Blk W' (w.heap.size + 1 + 1 + 1) X 24) ∧ W'.cell? ⟨w.heap.size + 1 + 1 + 1, 0, none⟩ = some (cv W' ⟨w.heap.size + 1 + 1 + 1, 0, none⟩) ∧ W'.cell? ⟨w.heap.size + 1 + 1 + 1, 1, none⟩ = some (cv W' ⟨w.heap.size + 1 + 1 + 1, 1, none⟩) ∧ W'.frozen? ⟨w.heap.size + 1 + 1 + 1, 0, none⟩ = false ∧ W'.frozen? ⟨w.heap.size + 1 + 1 + 1, 1, none⟩ = false ∧ W'.cell? ⟨w.heap.size, B * 2, none⟩ = some (.int .i64 x) ∧ W'.cell? ⟨w.heap.size, B * 2 + 1, none⟩ = some (.int .i64 y) ∧ W'.cell? ⟨w.heap.size, C * 2, none⟩ = some (.int .i64 u) ∧ W'.cell? ⟨w.heap.size, C * 2 + 1, none⟩ = some (.int .i64 v) ∧ W'.cell? ⟨w.heap.size + 1, 2, none⟩ = some (.int .i64 B) ∧ W'.cell? ⟨w.heap.size + 1, 3, none⟩ = some (.int .i64 C)) := Lib.hid (fun W' g hX => ⟨g, hX, by obtain ⟨X, h1, h2⟩ := hX; exact cv_eq h2 (by omega), by obtain ⟨X, h1, h2⟩ := hX; exact cv_eq h2 (by omega), by obtain ⟨X, h1, h2⟩ := hX; exact h2.free 0, by obtain ⟨X, h1, h2⟩ := hX; exact h2.free 1, (b0.out.keeps g (by omega)).cell _ _ hx, (b0.out.keeps g (by omega)).cell _ _ hy, (b0.out.keeps g (by omega)).cell _ _ hu, (b0.out.keeps g (by omega)).cell _ _ hv, (b1.out.keeps g (by omega)).cell 2 _ rfl, (b1.out.keeps g (by omega)).cell 3 _ rfl⟩)
  have KT : Hid (∀ W' p q, W3.grownBy W' (some (w.heap.size + 1 + 1 + 1)) ∧ (∃ X, X.size = 2 ∧ Blk W' (w.heap.size + 1 + 1 + 1) X 24) → W3.grownBy ((W'.setCell ⟨w.heap.size + 1 + 1 + 1, 0, none⟩ p).setCell ⟨w.heap.size + 1 + 1 + 1, 1, none⟩ q) (some (w.heap.size + 1 + 1 + 1)) ∧ (∃ X, X.size = 2 ∧ Blk ((W'.setCell ⟨w.heap.size + 1 + 1 + 1, 0, none⟩ p).setCell ⟨w.heap.size + 1 + 1 + 1, 1, none⟩ q) (w.heap.size + 1 + 1 + 1) X 24)) := Lib.hid (fun W' p q h => ⟨g_set (g_set h.1 (.inl rfl) p) (.inl rfl) q, by obtain ⟨X, h1, h2⟩ := h.2; exact ⟨_, by simpa using h1, (h2.set 0 p).set 1 q⟩⟩)
  have B3 : Hid (∃ X, X.size = 2 ∧ Blk W3 (w.heap.size + 1 + 1 + 1) X 24) := Lib.hid ⟨_, rfl, b3.out⟩
  clear hx hy hu hv hR b0 b1 b2
  go_region_held3 (fun W' => W3.grownBy W' (some (w.heap.size + 1 + 1 + 1)) ∧ (∃ X, X.size = 2 ∧ Blk W' (w.heap.size + 1 + 1 + 1) X 24) ∧ W'.cell? ⟨w.heap.size + 1 + 1 + 1, 0, none⟩ = some (cv W' ⟨w.heap.size + 1 + 1 + 1, 0, none⟩) ∧ W'.cell? ⟨w.heap.size + 1 + 1 + 1, 1, none⟩ = some (cv W' ⟨w.heap.size + 1 + 1 + 1, 1, none⟩) ∧ W'.frozen? ⟨w.heap.size + 1 + 1 + 1, 0, none⟩ = false ∧ W'.frozen? ⟨w.heap.size + 1 + 1 + 1, 1, none⟩ = false ∧ W'.cell? ⟨w.heap.size, B * 2, none⟩ = some (.int .i64 x) ∧ W'.cell? ⟨w.heap.size, B * 2 + 1, none⟩ = some (.int .i64 y) ∧ W'.cell? ⟨w.heap.size, C * 2, none⟩ = some (.int .i64 u) ∧ W'.cell? ⟨w.heap.size, C * 2 + 1, none⟩ = some (.int .i64 v) ∧ W'.cell? ⟨w.heap.size + 1, 2, none⟩ = some (.int .i64 B) ∧ W'.cell? ⟨w.heap.size + 1, 3, none⟩ = some (.int .i64 C)) (first | exact KS.out _ (g_drew (g_refl _ _)) B3.out | exact KS.out _ gZ hZ | (obtain ⟨gy, hyX, _⟩ := (by assumption : _ ∧ (∃ X, X.size = 2 ∧ Blk _ (w.heap.size + 1 + 1 + 1) X 24) ∧ _); exact KS.out _ (KT.out _ _ _ ⟨gy, hyX⟩).1 (KT.out _ _ _ ⟨gy, hyX⟩).2) | (obtain ⟨gy, hyX, _⟩ := (by assumption : _ ∧ (∃ X, X.size = 2 ∧ Blk _ (w.heap.size + 1 + 1 + 1) X 24) ∧ _); exact KS.out _ gy hyX)) (first | (go_at_call 37; refine Calls.mono (HC.out _) ?_; rintro e wa ⟨rfl, ga⟩; obtain ⟨gy, ⟨XX, hXX, hbX⟩, _⟩ := (by assumption : _ ∧ (∃ X, X.size = 2 ∧ Blk _ (w.heap.size + 1 + 1 + 1) X 24) ∧ _); have gZ := g_then gy ga; have hZ : ∃ X, X.size = 2 ∧ Blk wa (w.heap.size + 1 + 1 + 1) X 24 := ⟨XX, hXX, hbX.keepn ga⟩))
  have rr := ((hbX.keepn ga).set 0 (.int .i64 (p))).set 1 (.int .i64 (q))
  have r0 := rr.cell 0 (.int .i64 (p)) (by simp [hXX])
  have r1 := rr.cell 1 (.int .i64 (q)) (by simp [hXX])
  have gE := g_set (g_set gZ (p := ⟨w.heap.size + 1 + 1 + 1, 0, none⟩) (.inl rfl) (.int .i64 (p))) (p := ⟨w.heap.size + 1 + 1 + 1, 1, none⟩) (.inl rfl) (.int .i64 (q))
  go_wp2_with fail
  exact bodyPost_ret (v := .tuple #[.agg #[.int .i64 (p), .int .i64 (q)], .int .i64 (z)]) (by simp [results, Try.results25, go_sem, r0, r1]) rfl ⟨rfl, g_in bA gE (by omega)⟩

set_option maxHeartbeats 1600000 in
theorem rmade_5 (F : Nat → Int) (A rk rn : Int) (B : Nat) (C : Nat) (hB : B < 8) (hC : C < 8) (w : World) : Calls Try.prog 25 #[.agg (rgv F), .agg #[.int .i64 5, .int .i64 A, .int .i64 (B : Int), .int .i64 (C : Int)], .agg #[.int .i64 rk, .int .i64 rn]] w fun e w' => e = .returned (.tuple #[.agg #[.int .i64 (mK 5 F (B : Int) (C : Int) rk), .int .i64 (mN 5 F (B : Int) (C : Int) rn)], .int .i64 (mE 5 F (B : Int) (C : Int))]) ∧ w.grownBy w' none := by
  have eK : mK 5 F (B : Int) (C : Int) rk = nK (rK F B) (rK F C) := rfl
  have eN : mN 5 F (B : Int) (C : Int) rn = nN (rK F B) (rK F C) (wrap64 (rN F B - rN F C)) := rfl
  have eE : mE 5 F (B : Int) (C : Int) = nE (rK F B) (rK F C) := rfl
  rw [eK, eN, eE]
  clear eK eN eE
  have hx : (rgv F)[B * 2]? = some (.int .i64 (rK F B)) := rgv_get F (by omega)
  have hy : (rgv F)[B * 2 + 1]? = some (.int .i64 (rN F B)) := rgv_get F (by omega)
  have hu : (rgv F)[C * 2]? = some (.int .i64 (rK F C)) := rgv_get F (by omega)
  have hv : (rgv F)[C * 2 + 1]? = some (.int .i64 (rN F C)) := rgv_get F (by omega)
  have hBi : (B : Int) < 8 := by omega
  have hCi : (C : Int) < 8 := by omega
  generalize rK F B = x at *
  generalize rN F B = y at *
  generalize rK F C = u at *
  generalize rN F C = v at *
  have hR := rgv_size F
  generalize rgv F = R at *
  have b0 : Hid (Blk ((((w.alloc (.cells R 25)).alloc (.cells #[.int .i64 5, .int .i64 A, .int .i64 (B : Int), .int .i64 (C : Int)] 28)).alloc (.cells #[.int .i64 rk, .int .i64 rn] 24)).alloc (.cells #[.int .i64 0, .int .i64 0] 24)) (w.heap.size) R 25) := Lib.hid (by have h := (((Blk.new w R 25).keepn (g_alloc (g_refl (w.alloc (.cells R 25)) none) (.cells #[.int .i64 5, .int .i64 A, .int .i64 (B : Int), .int .i64 (C : Int)] 28))).keepn (g_alloc (g_refl ((w.alloc (.cells R 25)).alloc (.cells #[.int .i64 5, .int .i64 A, .int .i64 (B : Int), .int .i64 (C : Int)] 28)) none) (.cells #[.int .i64 rk, .int .i64 rn] 24))).keepn (g_alloc (g_refl (((w.alloc (.cells R 25)).alloc (.cells #[.int .i64 5, .int .i64 A, .int .i64 (B : Int), .int .i64 (C : Int)] 28)).alloc (.cells #[.int .i64 rk, .int .i64 rn] 24)) none) (.cells #[.int .i64 0, .int .i64 0] 24)); simpa using h)
  have b1 : Hid (Blk ((((w.alloc (.cells R 25)).alloc (.cells #[.int .i64 5, .int .i64 A, .int .i64 (B : Int), .int .i64 (C : Int)] 28)).alloc (.cells #[.int .i64 rk, .int .i64 rn] 24)).alloc (.cells #[.int .i64 0, .int .i64 0] 24)) (w.heap.size + 1) #[.int .i64 5, .int .i64 A, .int .i64 (B : Int), .int .i64 (C : Int)] 28) := Lib.hid (by have h := ((Blk.new (w.alloc (.cells R 25)) #[.int .i64 5, .int .i64 A, .int .i64 (B : Int), .int .i64 (C : Int)] 28).keepn (g_alloc (g_refl ((w.alloc (.cells R 25)).alloc (.cells #[.int .i64 5, .int .i64 A, .int .i64 (B : Int), .int .i64 (C : Int)] 28)) none) (.cells #[.int .i64 rk, .int .i64 rn] 24))).keepn (g_alloc (g_refl (((w.alloc (.cells R 25)).alloc (.cells #[.int .i64 5, .int .i64 A, .int .i64 (B : Int), .int .i64 (C : Int)] 28)).alloc (.cells #[.int .i64 rk, .int .i64 rn] 24)) none) (.cells #[.int .i64 0, .int .i64 0] 24)); simpa using h)
  have b2 : Hid (Blk ((((w.alloc (.cells R 25)).alloc (.cells #[.int .i64 5, .int .i64 A, .int .i64 (B : Int), .int .i64 (C : Int)] 28)).alloc (.cells #[.int .i64 rk, .int .i64 rn] 24)).alloc (.cells #[.int .i64 0, .int .i64 0] 24)) (w.heap.size + 1 + 1) #[.int .i64 rk, .int .i64 rn] 24) := Lib.hid (by have h := (Blk.new ((w.alloc (.cells R 25)).alloc (.cells #[.int .i64 5, .int .i64 A, .int .i64 (B : Int), .int .i64 (C : Int)] 28)) #[.int .i64 rk, .int .i64 rn] 24).keepn (g_alloc (g_refl (((w.alloc (.cells R 25)).alloc (.cells #[.int .i64 5, .int .i64 A, .int .i64 (B : Int), .int .i64 (C : Int)] 28)).alloc (.cells #[.int .i64 rk, .int .i64 rn] 24)) none) (.cells #[.int .i64 0, .int .i64 0] 24)); simpa using h)
  have b3 : Hid (Blk ((((w.alloc (.cells R 25)).alloc (.cells #[.int .i64 5, .int .i64 A, .int .i64 (B : Int), .int .i64 (C : Int)] 28)).alloc (.cells #[.int .i64 rk, .int .i64 rn] 24)).alloc (.cells #[.int .i64 0, .int .i64 0] 24)) (w.heap.size + 1 + 1 + 1) #[.int .i64 0, .int .i64 0] 24) := Lib.hid (by have h := Blk.new (((w.alloc (.cells R 25)).alloc (.cells #[.int .i64 5, .int .i64 A, .int .i64 (B : Int), .int .i64 (C : Int)] 28)).alloc (.cells #[.int .i64 rk, .int .i64 rn] 24)) #[.int .i64 0, .int .i64 0] 24; simpa using h)
  have bA := g_alloc (g_alloc (g_alloc (g_alloc (g_refl w none) (.cells R 25)) (.cells #[.int .i64 5, .int .i64 A, .int .i64 (B : Int), .int .i64 (C : Int)] 28)) (.cells #[.int .i64 rk, .int .i64 rn] 24)) (.cells #[.int .i64 0, .int .i64 0] 24)
  have hc := rsub_any x y u v
  generalize nK x u = p at *
  generalize nN x u (wrap64 (y - v)) = q at *
  generalize nE x u = z at *
  have HC := Lib.hid hc
  clear hc
  go_enter Try.func25, Try.ntmps25
  go_wp2_with fail
  generalize (((((w.alloc (.cells R 25)).alloc (.cells #[.int .i64 5, .int .i64 A, .int .i64 (B : Int), .int .i64 (C : Int)] 28)).alloc (.cells #[.int .i64 rk, .int .i64 rn] 24)).alloc (.cells #[.int .i64 0, .int .i64 0] 24))) = W3 at *
  have KS : Hid (∀ W', W3.grownBy W' (some (w.heap.size + 1 + 1 + 1)) → (∃ X, X.size = 2 ∧ Blk W' (w.heap.size + 1 + 1 + 1) X 24) → W3.grownBy W' (some (w.heap.size + 1 + 1 + 1)) ∧ (∃ X, X.size = 2 ∧ Blk W' (w.heap.size + 1 + 1 + 1) X 24) ∧ W'.cell? ⟨w.heap.size + 1 + 1 + 1, 0, none⟩ = some (cv W' ⟨w.heap.size + 1 + 1 + 1, 0, none⟩) ∧ W'.cell? ⟨w.heap.size + 1 + 1 + 1, 1, none⟩ = some (cv W' ⟨w.heap.size + 1 + 1 + 1, 1, none⟩) ∧ W'.frozen? ⟨w.heap.size + 1 + 1 + 1, 0, none⟩ = false ∧ W'.frozen? ⟨w.heap.size + 1 + 1 + 1, 1, none⟩ = false ∧ W'.cell? ⟨w.heap.size, B * 2, none⟩ = some (.int .i64 x) ∧ W'.cell? ⟨w.heap.size, B * 2 + 1, none⟩ = some (.int .i64 y) ∧ W'.cell? ⟨w.heap.size, C * 2, none⟩ = some (.int .i64 u) ∧ W'.cell? ⟨w.heap.size, C * 2 + 1, none⟩ = some (.int .i64 v) ∧ W'.cell? ⟨w.heap.size + 1, 2, none⟩ = some (.int .i64 B) ∧ W'.cell? ⟨w.heap.size + 1, 3, none⟩ = some (.int .i64 C)) := Lib.hid (fun W' g hX => ⟨g, hX, by obtain ⟨X, h1, h2⟩ := hX; exact cv_eq h2 (by omega), by obtain ⟨X, h1, h2⟩ := hX; exact cv_eq h2 (by omega), by obtain ⟨X, h1, h2⟩ := hX; exact h2.free 0, by obtain ⟨X, h1, h2⟩ := hX; exact h2.free 1, (b0.out.keeps g (by omega)).cell _ _ hx, (b0.out.keeps g (by omega)).cell _ _ hy, (b0.out.keeps g (by omega)).cell _ _ hu, (b0.out.keeps g (by omega)).cell _ _ hv, (b1.out.keeps g (by omega)).cell 2 _ rfl, (b1.out.keeps g (by omega)).cell 3 _ rfl⟩)
  have KT : Hid (∀ W' p q, W3.grownBy W' (some (w.heap.size + 1 + 1 + 1)) ∧ (∃ X, X.size = 2 ∧ Blk W' (w.heap.size + 1 + 1 + 1) X 24) → W3.grownBy ((W'.setCell ⟨w.heap.size + 1 + 1 + 1, 0, none⟩ p).setCell ⟨w.heap.size + 1 + 1 + 1, 1, none⟩ q) (some (w.heap.size + 1 + 1 + 1)) ∧ (∃ X, X.size = 2 ∧ Blk ((W'.setCell ⟨w.heap.size + 1 + 1 + 1, 0, none⟩ p).setCell ⟨w.heap.size + 1 + 1 + 1, 1, none⟩ q) (w.heap.size + 1 + 1 + 1) X 24)) := Lib.hid (fun W' p q h => ⟨g_set (g_set h.1 (.inl rfl) p) (.inl rfl) q, by obtain ⟨X, h1, h2⟩ := h.2; exact ⟨_, by simpa using h1, (h2.set 0 p).set 1 q⟩⟩)
  have B3 : Hid (∃ X, X.size = 2 ∧ Blk W3 (w.heap.size + 1 + 1 + 1) X 24) := Lib.hid ⟨_, rfl, b3.out⟩
  clear hx hy hu hv hR b0 b1 b2
  go_region_held3 (fun W' => W3.grownBy W' (some (w.heap.size + 1 + 1 + 1)) ∧ (∃ X, X.size = 2 ∧ Blk W' (w.heap.size + 1 + 1 + 1) X 24) ∧ W'.cell? ⟨w.heap.size + 1 + 1 + 1, 0, none⟩ = some (cv W' ⟨w.heap.size + 1 + 1 + 1, 0, none⟩) ∧ W'.cell? ⟨w.heap.size + 1 + 1 + 1, 1, none⟩ = some (cv W' ⟨w.heap.size + 1 + 1 + 1, 1, none⟩) ∧ W'.frozen? ⟨w.heap.size + 1 + 1 + 1, 0, none⟩ = false ∧ W'.frozen? ⟨w.heap.size + 1 + 1 + 1, 1, none⟩ = false ∧ W'.cell? ⟨w.heap.size, B * 2, none⟩ = some (.int .i64 x) ∧ W'.cell? ⟨w.heap.size, B * 2 + 1, none⟩ = some (.int .i64 y) ∧ W'.cell? ⟨w.heap.size, C * 2, none⟩ = some (.int .i64 u) ∧ W'.cell? ⟨w.heap.size, C * 2 + 1, none⟩ = some (.int .i64 v) ∧ W'.cell? ⟨w.heap.size + 1, 2, none⟩ = some (.int .i64 B) ∧ W'.cell? ⟨w.heap.size + 1, 3, none⟩ = some (.int .i64 C)) (first | exact KS.out _ (g_drew (g_refl _ _)) B3.out | exact KS.out _ gZ hZ | (obtain ⟨gy, hyX, _⟩ := (by assumption : _ ∧ (∃ X, X.size = 2 ∧ Blk _ (w.heap.size + 1 + 1 + 1) X 24) ∧ _); exact KS.out _ (KT.out _ _ _ ⟨gy, hyX⟩).1 (KT.out _ _ _ ⟨gy, hyX⟩).2) | (obtain ⟨gy, hyX, _⟩ := (by assumption : _ ∧ (∃ X, X.size = 2 ∧ Blk _ (w.heap.size + 1 + 1 + 1) X 24) ∧ _); exact KS.out _ gy hyX)) (first | (go_at_call 38; refine Calls.mono (HC.out _) ?_; rintro e wa ⟨rfl, ga⟩; obtain ⟨gy, ⟨XX, hXX, hbX⟩, _⟩ := (by assumption : _ ∧ (∃ X, X.size = 2 ∧ Blk _ (w.heap.size + 1 + 1 + 1) X 24) ∧ _); have gZ := g_then gy ga; have hZ : ∃ X, X.size = 2 ∧ Blk wa (w.heap.size + 1 + 1 + 1) X 24 := ⟨XX, hXX, hbX.keepn ga⟩))
  have rr := ((hbX.keepn ga).set 0 (.int .i64 (p))).set 1 (.int .i64 (q))
  have r0 := rr.cell 0 (.int .i64 (p)) (by simp [hXX])
  have r1 := rr.cell 1 (.int .i64 (q)) (by simp [hXX])
  have gE := g_set (g_set gZ (p := ⟨w.heap.size + 1 + 1 + 1, 0, none⟩) (.inl rfl) (.int .i64 (p))) (p := ⟨w.heap.size + 1 + 1 + 1, 1, none⟩) (.inl rfl) (.int .i64 (q))
  go_wp2_with fail
  exact bodyPost_ret (v := .tuple #[.agg #[.int .i64 (p), .int .i64 (q)], .int .i64 (z)]) (by simp [results, Try.results25, go_sem, r0, r1]) rfl ⟨rfl, g_in bA gE (by omega)⟩

set_option maxHeartbeats 1600000 in
theorem rmade_6 (F : Nat → Int) (A rk rn : Int) (B : Nat) (C : Nat) (hB : B < 8) (hC : C < 8) (w : World) : Calls Try.prog 25 #[.agg (rgv F), .agg #[.int .i64 6, .int .i64 A, .int .i64 (B : Int), .int .i64 (C : Int)], .agg #[.int .i64 rk, .int .i64 rn]] w fun e w' => e = .returned (.tuple #[.agg #[.int .i64 (mK 6 F (B : Int) (C : Int) rk), .int .i64 (mN 6 F (B : Int) (C : Int) rn)], .int .i64 (mE 6 F (B : Int) (C : Int))]) ∧ w.grownBy w' none := by
  have eK : mK 6 F (B : Int) (C : Int) rk = nK (rK F B) (rK F C) := rfl
  have eN : mN 6 F (B : Int) (C : Int) rn = nN (rK F B) (rK F C) (oneI (decide (rN F B < rN F C))) := rfl
  have eE : mE 6 F (B : Int) (C : Int) = nE (rK F B) (rK F C) := rfl
  rw [eK, eN, eE]
  clear eK eN eE
  have hx : (rgv F)[B * 2]? = some (.int .i64 (rK F B)) := rgv_get F (by omega)
  have hy : (rgv F)[B * 2 + 1]? = some (.int .i64 (rN F B)) := rgv_get F (by omega)
  have hu : (rgv F)[C * 2]? = some (.int .i64 (rK F C)) := rgv_get F (by omega)
  have hv : (rgv F)[C * 2 + 1]? = some (.int .i64 (rN F C)) := rgv_get F (by omega)
  have hBi : (B : Int) < 8 := by omega
  have hCi : (C : Int) < 8 := by omega
  generalize rK F B = x at *
  generalize rN F B = y at *
  generalize rK F C = u at *
  generalize rN F C = v at *
  have hR := rgv_size F
  generalize rgv F = R at *
  have b0 : Hid (Blk ((((w.alloc (.cells R 25)).alloc (.cells #[.int .i64 6, .int .i64 A, .int .i64 (B : Int), .int .i64 (C : Int)] 28)).alloc (.cells #[.int .i64 rk, .int .i64 rn] 24)).alloc (.cells #[.int .i64 0, .int .i64 0] 24)) (w.heap.size) R 25) := Lib.hid (by have h := (((Blk.new w R 25).keepn (g_alloc (g_refl (w.alloc (.cells R 25)) none) (.cells #[.int .i64 6, .int .i64 A, .int .i64 (B : Int), .int .i64 (C : Int)] 28))).keepn (g_alloc (g_refl ((w.alloc (.cells R 25)).alloc (.cells #[.int .i64 6, .int .i64 A, .int .i64 (B : Int), .int .i64 (C : Int)] 28)) none) (.cells #[.int .i64 rk, .int .i64 rn] 24))).keepn (g_alloc (g_refl (((w.alloc (.cells R 25)).alloc (.cells #[.int .i64 6, .int .i64 A, .int .i64 (B : Int), .int .i64 (C : Int)] 28)).alloc (.cells #[.int .i64 rk, .int .i64 rn] 24)) none) (.cells #[.int .i64 0, .int .i64 0] 24)); simpa using h)
  have b1 : Hid (Blk ((((w.alloc (.cells R 25)).alloc (.cells #[.int .i64 6, .int .i64 A, .int .i64 (B : Int), .int .i64 (C : Int)] 28)).alloc (.cells #[.int .i64 rk, .int .i64 rn] 24)).alloc (.cells #[.int .i64 0, .int .i64 0] 24)) (w.heap.size + 1) #[.int .i64 6, .int .i64 A, .int .i64 (B : Int), .int .i64 (C : Int)] 28) := Lib.hid (by have h := ((Blk.new (w.alloc (.cells R 25)) #[.int .i64 6, .int .i64 A, .int .i64 (B : Int), .int .i64 (C : Int)] 28).keepn (g_alloc (g_refl ((w.alloc (.cells R 25)).alloc (.cells #[.int .i64 6, .int .i64 A, .int .i64 (B : Int), .int .i64 (C : Int)] 28)) none) (.cells #[.int .i64 rk, .int .i64 rn] 24))).keepn (g_alloc (g_refl (((w.alloc (.cells R 25)).alloc (.cells #[.int .i64 6, .int .i64 A, .int .i64 (B : Int), .int .i64 (C : Int)] 28)).alloc (.cells #[.int .i64 rk, .int .i64 rn] 24)) none) (.cells #[.int .i64 0, .int .i64 0] 24)); simpa using h)
  have b2 : Hid (Blk ((((w.alloc (.cells R 25)).alloc (.cells #[.int .i64 6, .int .i64 A, .int .i64 (B : Int), .int .i64 (C : Int)] 28)).alloc (.cells #[.int .i64 rk, .int .i64 rn] 24)).alloc (.cells #[.int .i64 0, .int .i64 0] 24)) (w.heap.size + 1 + 1) #[.int .i64 rk, .int .i64 rn] 24) := Lib.hid (by have h := (Blk.new ((w.alloc (.cells R 25)).alloc (.cells #[.int .i64 6, .int .i64 A, .int .i64 (B : Int), .int .i64 (C : Int)] 28)) #[.int .i64 rk, .int .i64 rn] 24).keepn (g_alloc (g_refl (((w.alloc (.cells R 25)).alloc (.cells #[.int .i64 6, .int .i64 A, .int .i64 (B : Int), .int .i64 (C : Int)] 28)).alloc (.cells #[.int .i64 rk, .int .i64 rn] 24)) none) (.cells #[.int .i64 0, .int .i64 0] 24)); simpa using h)
  have b3 : Hid (Blk ((((w.alloc (.cells R 25)).alloc (.cells #[.int .i64 6, .int .i64 A, .int .i64 (B : Int), .int .i64 (C : Int)] 28)).alloc (.cells #[.int .i64 rk, .int .i64 rn] 24)).alloc (.cells #[.int .i64 0, .int .i64 0] 24)) (w.heap.size + 1 + 1 + 1) #[.int .i64 0, .int .i64 0] 24) := Lib.hid (by have h := Blk.new (((w.alloc (.cells R 25)).alloc (.cells #[.int .i64 6, .int .i64 A, .int .i64 (B : Int), .int .i64 (C : Int)] 28)).alloc (.cells #[.int .i64 rk, .int .i64 rn] 24)) #[.int .i64 0, .int .i64 0] 24; simpa using h)
  have bA := g_alloc (g_alloc (g_alloc (g_alloc (g_refl w none) (.cells R 25)) (.cells #[.int .i64 6, .int .i64 A, .int .i64 (B : Int), .int .i64 (C : Int)] 28)) (.cells #[.int .i64 rk, .int .i64 rn] 24)) (.cells #[.int .i64 0, .int .i64 0] 24)
  have hc := rless_any x y u v
  generalize nK x u = p at *
  generalize nN x u (oneI (decide (y < v))) = q at *
  generalize nE x u = z at *
  have HC := Lib.hid hc
  clear hc
  go_enter Try.func25, Try.ntmps25
  go_wp2_with fail
  generalize (((((w.alloc (.cells R 25)).alloc (.cells #[.int .i64 6, .int .i64 A, .int .i64 (B : Int), .int .i64 (C : Int)] 28)).alloc (.cells #[.int .i64 rk, .int .i64 rn] 24)).alloc (.cells #[.int .i64 0, .int .i64 0] 24))) = W3 at *
  have KS : Hid (∀ W', W3.grownBy W' (some (w.heap.size + 1 + 1 + 1)) → (∃ X, X.size = 2 ∧ Blk W' (w.heap.size + 1 + 1 + 1) X 24) → W3.grownBy W' (some (w.heap.size + 1 + 1 + 1)) ∧ (∃ X, X.size = 2 ∧ Blk W' (w.heap.size + 1 + 1 + 1) X 24) ∧ W'.cell? ⟨w.heap.size + 1 + 1 + 1, 0, none⟩ = some (cv W' ⟨w.heap.size + 1 + 1 + 1, 0, none⟩) ∧ W'.cell? ⟨w.heap.size + 1 + 1 + 1, 1, none⟩ = some (cv W' ⟨w.heap.size + 1 + 1 + 1, 1, none⟩) ∧ W'.frozen? ⟨w.heap.size + 1 + 1 + 1, 0, none⟩ = false ∧ W'.frozen? ⟨w.heap.size + 1 + 1 + 1, 1, none⟩ = false ∧ W'.cell? ⟨w.heap.size, B * 2, none⟩ = some (.int .i64 x) ∧ W'.cell? ⟨w.heap.size, B * 2 + 1, none⟩ = some (.int .i64 y) ∧ W'.cell? ⟨w.heap.size, C * 2, none⟩ = some (.int .i64 u) ∧ W'.cell? ⟨w.heap.size, C * 2 + 1, none⟩ = some (.int .i64 v) ∧ W'.cell? ⟨w.heap.size + 1, 2, none⟩ = some (.int .i64 B) ∧ W'.cell? ⟨w.heap.size + 1, 3, none⟩ = some (.int .i64 C)) := Lib.hid (fun W' g hX => ⟨g, hX, by obtain ⟨X, h1, h2⟩ := hX; exact cv_eq h2 (by omega), by obtain ⟨X, h1, h2⟩ := hX; exact cv_eq h2 (by omega), by obtain ⟨X, h1, h2⟩ := hX; exact h2.free 0, by obtain ⟨X, h1, h2⟩ := hX; exact h2.free 1, (b0.out.keeps g (by omega)).cell _ _ hx, (b0.out.keeps g (by omega)).cell _ _ hy, (b0.out.keeps g (by omega)).cell _ _ hu, (b0.out.keeps g (by omega)).cell _ _ hv, (b1.out.keeps g (by omega)).cell 2 _ rfl, (b1.out.keeps g (by omega)).cell 3 _ rfl⟩)
  have KT : Hid (∀ W' p q, W3.grownBy W' (some (w.heap.size + 1 + 1 + 1)) ∧ (∃ X, X.size = 2 ∧ Blk W' (w.heap.size + 1 + 1 + 1) X 24) → W3.grownBy ((W'.setCell ⟨w.heap.size + 1 + 1 + 1, 0, none⟩ p).setCell ⟨w.heap.size + 1 + 1 + 1, 1, none⟩ q) (some (w.heap.size + 1 + 1 + 1)) ∧ (∃ X, X.size = 2 ∧ Blk ((W'.setCell ⟨w.heap.size + 1 + 1 + 1, 0, none⟩ p).setCell ⟨w.heap.size + 1 + 1 + 1, 1, none⟩ q) (w.heap.size + 1 + 1 + 1) X 24)) := Lib.hid (fun W' p q h => ⟨g_set (g_set h.1 (.inl rfl) p) (.inl rfl) q, by obtain ⟨X, h1, h2⟩ := h.2; exact ⟨_, by simpa using h1, (h2.set 0 p).set 1 q⟩⟩)
  have B3 : Hid (∃ X, X.size = 2 ∧ Blk W3 (w.heap.size + 1 + 1 + 1) X 24) := Lib.hid ⟨_, rfl, b3.out⟩
  clear hx hy hu hv hR b0 b1 b2
  go_region_held3 (fun W' => W3.grownBy W' (some (w.heap.size + 1 + 1 + 1)) ∧ (∃ X, X.size = 2 ∧ Blk W' (w.heap.size + 1 + 1 + 1) X 24) ∧ W'.cell? ⟨w.heap.size + 1 + 1 + 1, 0, none⟩ = some (cv W' ⟨w.heap.size + 1 + 1 + 1, 0, none⟩) ∧ W'.cell? ⟨w.heap.size + 1 + 1 + 1, 1, none⟩ = some (cv W' ⟨w.heap.size + 1 + 1 + 1, 1, none⟩) ∧ W'.frozen? ⟨w.heap.size + 1 + 1 + 1, 0, none⟩ = false ∧ W'.frozen? ⟨w.heap.size + 1 + 1 + 1, 1, none⟩ = false ∧ W'.cell? ⟨w.heap.size, B * 2, none⟩ = some (.int .i64 x) ∧ W'.cell? ⟨w.heap.size, B * 2 + 1, none⟩ = some (.int .i64 y) ∧ W'.cell? ⟨w.heap.size, C * 2, none⟩ = some (.int .i64 u) ∧ W'.cell? ⟨w.heap.size, C * 2 + 1, none⟩ = some (.int .i64 v) ∧ W'.cell? ⟨w.heap.size + 1, 2, none⟩ = some (.int .i64 B) ∧ W'.cell? ⟨w.heap.size + 1, 3, none⟩ = some (.int .i64 C)) (first | exact KS.out _ (g_drew (g_refl _ _)) B3.out | exact KS.out _ gZ hZ | (obtain ⟨gy, hyX, _⟩ := (by assumption : _ ∧ (∃ X, X.size = 2 ∧ Blk _ (w.heap.size + 1 + 1 + 1) X 24) ∧ _); exact KS.out _ (KT.out _ _ _ ⟨gy, hyX⟩).1 (KT.out _ _ _ ⟨gy, hyX⟩).2) | (obtain ⟨gy, hyX, _⟩ := (by assumption : _ ∧ (∃ X, X.size = 2 ∧ Blk _ (w.heap.size + 1 + 1 + 1) X 24) ∧ _); exact KS.out _ gy hyX)) (first | (go_at_call 39; refine Calls.mono (HC.out _) ?_; rintro e wa ⟨rfl, ga⟩; obtain ⟨gy, ⟨XX, hXX, hbX⟩, _⟩ := (by assumption : _ ∧ (∃ X, X.size = 2 ∧ Blk _ (w.heap.size + 1 + 1 + 1) X 24) ∧ _); have gZ := g_then gy ga; have hZ : ∃ X, X.size = 2 ∧ Blk wa (w.heap.size + 1 + 1 + 1) X 24 := ⟨XX, hXX, hbX.keepn ga⟩))
  have rr := ((hbX.keepn ga).set 0 (.int .i64 (p))).set 1 (.int .i64 (q))
  have r0 := rr.cell 0 (.int .i64 (p)) (by simp [hXX])
  have r1 := rr.cell 1 (.int .i64 (q)) (by simp [hXX])
  have gE := g_set (g_set gZ (p := ⟨w.heap.size + 1 + 1 + 1, 0, none⟩) (.inl rfl) (.int .i64 (p))) (p := ⟨w.heap.size + 1 + 1 + 1, 1, none⟩) (.inl rfl) (.int .i64 (q))
  go_wp2_with fail
  exact bodyPost_ret (v := .tuple #[.agg #[.int .i64 (p), .int .i64 (q)], .int .i64 (z)]) (by simp [results, Try.results25, go_sem, r0, r1]) rfl ⟨rfl, g_in bA gE (by omega)⟩

set_option maxHeartbeats 1600000 in
theorem rmade_7 (F : Nat → Int) (A rk rn : Int) (B : Nat) (C : Nat) (hB : B < 8) (hC : C < 8) (w : World) : Calls Try.prog 25 #[.agg (rgv F), .agg #[.int .i64 7, .int .i64 A, .int .i64 (B : Int), .int .i64 (C : Int)], .agg #[.int .i64 rk, .int .i64 rn]] w fun e w' => e = .returned (.tuple #[.agg #[.int .i64 (mK 7 F (B : Int) (C : Int) rk), .int .i64 (mN 7 F (B : Int) (C : Int) rn)], .int .i64 (mE 7 F (B : Int) (C : Int))]) ∧ w.grownBy w' none := by
  have eK : mK 7 F (B : Int) (C : Int) rk = 1 := rfl
  have eN : mN 7 F (B : Int) (C : Int) rn = oneI (sameB (rK F B) (rN F B) (rK F C) (rN F C)) := rfl
  have eE : mE 7 F (B : Int) (C : Int) = 0 := rfl
  rw [eK, eN, eE]
  clear eK eN eE
  have hx : (rgv F)[B * 2]? = some (.int .i64 (rK F B)) := rgv_get F (by omega)
  have hy : (rgv F)[B * 2 + 1]? = some (.int .i64 (rN F B)) := rgv_get F (by omega)
  have hu : (rgv F)[C * 2]? = some (.int .i64 (rK F C)) := rgv_get F (by omega)
  have hv : (rgv F)[C * 2 + 1]? = some (.int .i64 (rN F C)) := rgv_get F (by omega)
  have hBi : (B : Int) < 8 := by omega
  have hCi : (C : Int) < 8 := by omega
  generalize rK F B = x at *
  generalize rN F B = y at *
  generalize rK F C = u at *
  generalize rN F C = v at *
  have hR := rgv_size F
  generalize rgv F = R at *
  have b0 : Hid (Blk ((((w.alloc (.cells R 25)).alloc (.cells #[.int .i64 7, .int .i64 A, .int .i64 (B : Int), .int .i64 (C : Int)] 28)).alloc (.cells #[.int .i64 rk, .int .i64 rn] 24)).alloc (.cells #[.int .i64 0, .int .i64 0] 24)) (w.heap.size) R 25) := Lib.hid (by have h := (((Blk.new w R 25).keepn (g_alloc (g_refl (w.alloc (.cells R 25)) none) (.cells #[.int .i64 7, .int .i64 A, .int .i64 (B : Int), .int .i64 (C : Int)] 28))).keepn (g_alloc (g_refl ((w.alloc (.cells R 25)).alloc (.cells #[.int .i64 7, .int .i64 A, .int .i64 (B : Int), .int .i64 (C : Int)] 28)) none) (.cells #[.int .i64 rk, .int .i64 rn] 24))).keepn (g_alloc (g_refl (((w.alloc (.cells R 25)).alloc (.cells #[.int .i64 7, .int .i64 A, .int .i64 (B : Int), .int .i64 (C : Int)] 28)).alloc (.cells #[.int .i64 rk, .int .i64 rn] 24)) none) (.cells #[.int .i64 0, .int .i64 0] 24)); simpa using h)
  have b1 : Hid (Blk ((((w.alloc (.cells R 25)).alloc (.cells #[.int .i64 7, .int .i64 A, .int .i64 (B : Int), .int .i64 (C : Int)] 28)).alloc (.cells #[.int .i64 rk, .int .i64 rn] 24)).alloc (.cells #[.int .i64 0, .int .i64 0] 24)) (w.heap.size + 1) #[.int .i64 7, .int .i64 A, .int .i64 (B : Int), .int .i64 (C : Int)] 28) := Lib.hid (by have h := ((Blk.new (w.alloc (.cells R 25)) #[.int .i64 7, .int .i64 A, .int .i64 (B : Int), .int .i64 (C : Int)] 28).keepn (g_alloc (g_refl ((w.alloc (.cells R 25)).alloc (.cells #[.int .i64 7, .int .i64 A, .int .i64 (B : Int), .int .i64 (C : Int)] 28)) none) (.cells #[.int .i64 rk, .int .i64 rn] 24))).keepn (g_alloc (g_refl (((w.alloc (.cells R 25)).alloc (.cells #[.int .i64 7, .int .i64 A, .int .i64 (B : Int), .int .i64 (C : Int)] 28)).alloc (.cells #[.int .i64 rk, .int .i64 rn] 24)) none) (.cells #[.int .i64 0, .int .i64 0] 24)); simpa using h)
  have b2 : Hid (Blk ((((w.alloc (.cells R 25)).alloc (.cells #[.int .i64 7, .int .i64 A, .int .i64 (B : Int), .int .i64 (C : Int)] 28)).alloc (.cells #[.int .i64 rk, .int .i64 rn] 24)).alloc (.cells #[.int .i64 0, .int .i64 0] 24)) (w.heap.size + 1 + 1) #[.int .i64 rk, .int .i64 rn] 24) := Lib.hid (by have h := (Blk.new ((w.alloc (.cells R 25)).alloc (.cells #[.int .i64 7, .int .i64 A, .int .i64 (B : Int), .int .i64 (C : Int)] 28)) #[.int .i64 rk, .int .i64 rn] 24).keepn (g_alloc (g_refl (((w.alloc (.cells R 25)).alloc (.cells #[.int .i64 7, .int .i64 A, .int .i64 (B : Int), .int .i64 (C : Int)] 28)).alloc (.cells #[.int .i64 rk, .int .i64 rn] 24)) none) (.cells #[.int .i64 0, .int .i64 0] 24)); simpa using h)
  have b3 : Hid (Blk ((((w.alloc (.cells R 25)).alloc (.cells #[.int .i64 7, .int .i64 A, .int .i64 (B : Int), .int .i64 (C : Int)] 28)).alloc (.cells #[.int .i64 rk, .int .i64 rn] 24)).alloc (.cells #[.int .i64 0, .int .i64 0] 24)) (w.heap.size + 1 + 1 + 1) #[.int .i64 0, .int .i64 0] 24) := Lib.hid (by have h := Blk.new (((w.alloc (.cells R 25)).alloc (.cells #[.int .i64 7, .int .i64 A, .int .i64 (B : Int), .int .i64 (C : Int)] 28)).alloc (.cells #[.int .i64 rk, .int .i64 rn] 24)) #[.int .i64 0, .int .i64 0] 24; simpa using h)
  have bA := g_alloc (g_alloc (g_alloc (g_alloc (g_refl w none) (.cells R 25)) (.cells #[.int .i64 7, .int .i64 A, .int .i64 (B : Int), .int .i64 (C : Int)] 28)) (.cells #[.int .i64 rk, .int .i64 rn] 24)) (.cells #[.int .i64 0, .int .i64 0] 24)
  have hc := requal_any x y u v
  generalize oneI (sameB x y u v) = q at *
  have HC := Lib.hid hc
  clear hc
  go_enter Try.func25, Try.ntmps25
  go_wp2_with fail
  generalize (((((w.alloc (.cells R 25)).alloc (.cells #[.int .i64 7, .int .i64 A, .int .i64 (B : Int), .int .i64 (C : Int)] 28)).alloc (.cells #[.int .i64 rk, .int .i64 rn] 24)).alloc (.cells #[.int .i64 0, .int .i64 0] 24))) = W3 at *
  have KS : Hid (∀ W', W3.grownBy W' (some (w.heap.size + 1 + 1 + 1)) → (∃ X, X.size = 2 ∧ Blk W' (w.heap.size + 1 + 1 + 1) X 24) → W3.grownBy W' (some (w.heap.size + 1 + 1 + 1)) ∧ (∃ X, X.size = 2 ∧ Blk W' (w.heap.size + 1 + 1 + 1) X 24) ∧ W'.cell? ⟨w.heap.size + 1 + 1 + 1, 0, none⟩ = some (cv W' ⟨w.heap.size + 1 + 1 + 1, 0, none⟩) ∧ W'.cell? ⟨w.heap.size + 1 + 1 + 1, 1, none⟩ = some (cv W' ⟨w.heap.size + 1 + 1 + 1, 1, none⟩) ∧ W'.frozen? ⟨w.heap.size + 1 + 1 + 1, 0, none⟩ = false ∧ W'.frozen? ⟨w.heap.size + 1 + 1 + 1, 1, none⟩ = false ∧ W'.cell? ⟨w.heap.size, B * 2, none⟩ = some (.int .i64 x) ∧ W'.cell? ⟨w.heap.size, B * 2 + 1, none⟩ = some (.int .i64 y) ∧ W'.cell? ⟨w.heap.size, C * 2, none⟩ = some (.int .i64 u) ∧ W'.cell? ⟨w.heap.size, C * 2 + 1, none⟩ = some (.int .i64 v) ∧ W'.cell? ⟨w.heap.size + 1, 2, none⟩ = some (.int .i64 B) ∧ W'.cell? ⟨w.heap.size + 1, 3, none⟩ = some (.int .i64 C)) := Lib.hid (fun W' g hX => ⟨g, hX, by obtain ⟨X, h1, h2⟩ := hX; exact cv_eq h2 (by omega), by obtain ⟨X, h1, h2⟩ := hX; exact cv_eq h2 (by omega), by obtain ⟨X, h1, h2⟩ := hX; exact h2.free 0, by obtain ⟨X, h1, h2⟩ := hX; exact h2.free 1, (b0.out.keeps g (by omega)).cell _ _ hx, (b0.out.keeps g (by omega)).cell _ _ hy, (b0.out.keeps g (by omega)).cell _ _ hu, (b0.out.keeps g (by omega)).cell _ _ hv, (b1.out.keeps g (by omega)).cell 2 _ rfl, (b1.out.keeps g (by omega)).cell 3 _ rfl⟩)
  have KT : Hid (∀ W' p q, W3.grownBy W' (some (w.heap.size + 1 + 1 + 1)) ∧ (∃ X, X.size = 2 ∧ Blk W' (w.heap.size + 1 + 1 + 1) X 24) → W3.grownBy ((W'.setCell ⟨w.heap.size + 1 + 1 + 1, 0, none⟩ p).setCell ⟨w.heap.size + 1 + 1 + 1, 1, none⟩ q) (some (w.heap.size + 1 + 1 + 1)) ∧ (∃ X, X.size = 2 ∧ Blk ((W'.setCell ⟨w.heap.size + 1 + 1 + 1, 0, none⟩ p).setCell ⟨w.heap.size + 1 + 1 + 1, 1, none⟩ q) (w.heap.size + 1 + 1 + 1) X 24)) := Lib.hid (fun W' p q h => ⟨g_set (g_set h.1 (.inl rfl) p) (.inl rfl) q, by obtain ⟨X, h1, h2⟩ := h.2; exact ⟨_, by simpa using h1, (h2.set 0 p).set 1 q⟩⟩)
  have B3 : Hid (∃ X, X.size = 2 ∧ Blk W3 (w.heap.size + 1 + 1 + 1) X 24) := Lib.hid ⟨_, rfl, b3.out⟩
  clear hx hy hu hv hR b0 b1 b2
  go_region_held3 (fun W' => W3.grownBy W' (some (w.heap.size + 1 + 1 + 1)) ∧ (∃ X, X.size = 2 ∧ Blk W' (w.heap.size + 1 + 1 + 1) X 24) ∧ W'.cell? ⟨w.heap.size + 1 + 1 + 1, 0, none⟩ = some (cv W' ⟨w.heap.size + 1 + 1 + 1, 0, none⟩) ∧ W'.cell? ⟨w.heap.size + 1 + 1 + 1, 1, none⟩ = some (cv W' ⟨w.heap.size + 1 + 1 + 1, 1, none⟩) ∧ W'.frozen? ⟨w.heap.size + 1 + 1 + 1, 0, none⟩ = false ∧ W'.frozen? ⟨w.heap.size + 1 + 1 + 1, 1, none⟩ = false ∧ W'.cell? ⟨w.heap.size, B * 2, none⟩ = some (.int .i64 x) ∧ W'.cell? ⟨w.heap.size, B * 2 + 1, none⟩ = some (.int .i64 y) ∧ W'.cell? ⟨w.heap.size, C * 2, none⟩ = some (.int .i64 u) ∧ W'.cell? ⟨w.heap.size, C * 2 + 1, none⟩ = some (.int .i64 v) ∧ W'.cell? ⟨w.heap.size + 1, 2, none⟩ = some (.int .i64 B) ∧ W'.cell? ⟨w.heap.size + 1, 3, none⟩ = some (.int .i64 C)) (first | exact KS.out _ (g_drew (g_refl _ _)) B3.out | exact KS.out _ gZ hZ | (obtain ⟨gy, hyX, _⟩ := (by assumption : _ ∧ (∃ X, X.size = 2 ∧ Blk _ (w.heap.size + 1 + 1 + 1) X 24) ∧ _); exact KS.out _ (KT.out _ _ _ ⟨gy, hyX⟩).1 (KT.out _ _ _ ⟨gy, hyX⟩).2) | (obtain ⟨gy, hyX, _⟩ := (by assumption : _ ∧ (∃ X, X.size = 2 ∧ Blk _ (w.heap.size + 1 + 1 + 1) X 24) ∧ _); exact KS.out _ gy hyX)) (first | (go_at_call 40; refine Calls.mono (HC.out _) ?_; rintro e wa ⟨rfl, ga⟩; obtain ⟨gy, ⟨XX, hXX, hbX⟩, _⟩ := (by assumption : _ ∧ (∃ X, X.size = 2 ∧ Blk _ (w.heap.size + 1 + 1 + 1) X 24) ∧ _); have gZ := g_then gy ga; have hZ : ∃ X, X.size = 2 ∧ Blk wa (w.heap.size + 1 + 1 + 1) X 24 := ⟨XX, hXX, hbX.keepn ga⟩))
  have rr := ((hbX.keepn ga).set 0 (.int .i64 (1))).set 1 (.int .i64 (q))
  have r0 := rr.cell 0 (.int .i64 (1)) (by simp [hXX])
  have r1 := rr.cell 1 (.int .i64 (q)) (by simp [hXX])
  have gE := g_set (g_set gZ (p := ⟨w.heap.size + 1 + 1 + 1, 0, none⟩) (.inl rfl) (.int .i64 (1))) (p := ⟨w.heap.size + 1 + 1 + 1, 1, none⟩) (.inl rfl) (.int .i64 (q))
  go_wp2_with fail
  exact bodyPost_ret (v := .tuple #[.agg #[.int .i64 (1), .int .i64 (q)], .int .i64 (0)]) (by simp [results, Try.results25, go_sem, r0, r1]) rfl ⟨rfl, g_in bA gE (by omega)⟩

set_option maxHeartbeats 1600000 in
theorem rmade_10 (F : Nat → Int) (A rk rn : Int) (B : Int) (C : Int) (w : World) : Calls Try.prog 25 #[.agg (rgv F), .agg #[.int .i64 10, .int .i64 A, .int .i64 B, .int .i64 C], .agg #[.int .i64 rk, .int .i64 rn]] w fun e w' => e = .returned (.tuple #[.agg #[.int .i64 (mK 10 F B C rk), .int .i64 (mN 10 F B C rn)], .int .i64 (mE 10 F B C)]) ∧ w.grownBy w' none := by
  have eK : mK 10 F B C rk = rk := rfl
  have eN : mN 10 F B C rn = rn := rfl
  have eE : mE 10 F B C = 0 := rfl
  rw [eK, eN, eE]
  clear eK eN eE
  have hR := rgv_size F
  generalize rgv F = R at *
  have b0 : Hid (Blk ((((w.alloc (.cells R 25)).alloc (.cells #[.int .i64 10, .int .i64 A, .int .i64 B, .int .i64 C] 28)).alloc (.cells #[.int .i64 rk, .int .i64 rn] 24)).alloc (.cells #[.int .i64 0, .int .i64 0] 24)) (w.heap.size) R 25) := Lib.hid (by have h := (((Blk.new w R 25).keepn (g_alloc (g_refl (w.alloc (.cells R 25)) none) (.cells #[.int .i64 10, .int .i64 A, .int .i64 B, .int .i64 C] 28))).keepn (g_alloc (g_refl ((w.alloc (.cells R 25)).alloc (.cells #[.int .i64 10, .int .i64 A, .int .i64 B, .int .i64 C] 28)) none) (.cells #[.int .i64 rk, .int .i64 rn] 24))).keepn (g_alloc (g_refl (((w.alloc (.cells R 25)).alloc (.cells #[.int .i64 10, .int .i64 A, .int .i64 B, .int .i64 C] 28)).alloc (.cells #[.int .i64 rk, .int .i64 rn] 24)) none) (.cells #[.int .i64 0, .int .i64 0] 24)); simpa using h)
  have b1 : Hid (Blk ((((w.alloc (.cells R 25)).alloc (.cells #[.int .i64 10, .int .i64 A, .int .i64 B, .int .i64 C] 28)).alloc (.cells #[.int .i64 rk, .int .i64 rn] 24)).alloc (.cells #[.int .i64 0, .int .i64 0] 24)) (w.heap.size + 1) #[.int .i64 10, .int .i64 A, .int .i64 B, .int .i64 C] 28) := Lib.hid (by have h := ((Blk.new (w.alloc (.cells R 25)) #[.int .i64 10, .int .i64 A, .int .i64 B, .int .i64 C] 28).keepn (g_alloc (g_refl ((w.alloc (.cells R 25)).alloc (.cells #[.int .i64 10, .int .i64 A, .int .i64 B, .int .i64 C] 28)) none) (.cells #[.int .i64 rk, .int .i64 rn] 24))).keepn (g_alloc (g_refl (((w.alloc (.cells R 25)).alloc (.cells #[.int .i64 10, .int .i64 A, .int .i64 B, .int .i64 C] 28)).alloc (.cells #[.int .i64 rk, .int .i64 rn] 24)) none) (.cells #[.int .i64 0, .int .i64 0] 24)); simpa using h)
  have b2 : Hid (Blk ((((w.alloc (.cells R 25)).alloc (.cells #[.int .i64 10, .int .i64 A, .int .i64 B, .int .i64 C] 28)).alloc (.cells #[.int .i64 rk, .int .i64 rn] 24)).alloc (.cells #[.int .i64 0, .int .i64 0] 24)) (w.heap.size + 1 + 1) #[.int .i64 rk, .int .i64 rn] 24) := Lib.hid (by have h := (Blk.new ((w.alloc (.cells R 25)).alloc (.cells #[.int .i64 10, .int .i64 A, .int .i64 B, .int .i64 C] 28)) #[.int .i64 rk, .int .i64 rn] 24).keepn (g_alloc (g_refl (((w.alloc (.cells R 25)).alloc (.cells #[.int .i64 10, .int .i64 A, .int .i64 B, .int .i64 C] 28)).alloc (.cells #[.int .i64 rk, .int .i64 rn] 24)) none) (.cells #[.int .i64 0, .int .i64 0] 24)); simpa using h)
  have b3 : Hid (Blk ((((w.alloc (.cells R 25)).alloc (.cells #[.int .i64 10, .int .i64 A, .int .i64 B, .int .i64 C] 28)).alloc (.cells #[.int .i64 rk, .int .i64 rn] 24)).alloc (.cells #[.int .i64 0, .int .i64 0] 24)) (w.heap.size + 1 + 1 + 1) #[.int .i64 0, .int .i64 0] 24) := Lib.hid (by have h := Blk.new (((w.alloc (.cells R 25)).alloc (.cells #[.int .i64 10, .int .i64 A, .int .i64 B, .int .i64 C] 28)).alloc (.cells #[.int .i64 rk, .int .i64 rn] 24)) #[.int .i64 0, .int .i64 0] 24; simpa using h)
  have bA := g_alloc (g_alloc (g_alloc (g_alloc (g_refl w none) (.cells R 25)) (.cells #[.int .i64 10, .int .i64 A, .int .i64 B, .int .i64 C] 28)) (.cells #[.int .i64 rk, .int .i64 rn] 24)) (.cells #[.int .i64 0, .int .i64 0] 24)
  go_enter Try.func25, Try.ntmps25
  go_wp2_with fail
  exact bodyPost_ret (v := .tuple #[.agg #[.int .i64 rk, .int .i64 rn], .int .i64 0]) (by simp [results, Try.results25, go_sem]) rfl ⟨rfl, g_alloc (g_alloc (g_alloc (g_alloc (g_refl _ _) _) _) _) _⟩
end Go.Proofs.Ytdfompfboopkpaa
