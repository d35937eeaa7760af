/- Values. -/
import Derived.Test.YtdfompfboopkpaaBase
namespace Go.Proofs.Ytdfompfboopkpaa
open Go.RowKit
set_option linter.unusedVariables false

set_option maxHeartbeats 1600000 in
theorem num_any (n : Int) (w : World) : Calls Try.prog 28 #[.int .i64 n] w fun e w' => e = .returned (.agg #[.int .i64 1, .int .i64 n]) ∧ w.grownBy w' none := by
  go_enter Try.func28, Try.ntmps28
  go_wp2_with fail
  exact bodyPost_ret (v := .agg #[.int .i64 1, .int .i64 n]) (by simp [results, Try.results28, go_sem]) rfl ⟨rfl, g_alloc (g_refl _ _) _⟩

set_option maxHeartbeats 1600000 in
theorem rnum_any (n : Int) (w : World) : Calls Try.prog 26 #[.int .i64 n] w fun e w' => e = .returned (.agg #[.int .i64 1, .int .i64 n]) ∧ w.grownBy w' none := by
  go_enter Try.func26, Try.ntmps26
  go_wp2_with fail
  exact bodyPost_ret (v := .agg #[.int .i64 1, .int .i64 n]) (by simp [results, Try.results26, go_sem]) rfl ⟨rfl, g_alloc (g_refl _ _) _⟩

set_option maxHeartbeats 1600000 in
theorem nil_any (w : World) : Calls Try.prog 31 #[] w fun e w' => e = .returned (.agg #[.int .i64 2, .int .i64 0]) ∧ w.grownBy w' none := by
  go_enter Try.func31, Try.ntmps31
  go_wp2_with fail
  exact bodyPost_ret (v := .agg #[.int .i64 2, .int .i64 0]) (by simp [results, Try.results31, go_sem]) rfl ⟨rfl, g_alloc (g_refl _ _) _⟩

set_option maxHeartbeats 1600000 in
theorem rnil_any (w : World) : Calls Try.prog 27 #[] w fun e w' => e = .returned (.agg #[.int .i64 2, .int .i64 0]) ∧ w.grownBy w' none := by
  go_enter Try.func27, Try.ntmps27
  go_wp2_with fail
  exact bodyPost_ret (v := .agg #[.int .i64 2, .int .i64 0]) (by simp [results, Try.results27, go_sem]) rfl ⟨rfl, g_alloc (g_refl _ _) _⟩

def oneI (b : Bool) : Int := if b then 1 else 0
set_option maxHeartbeats 1600000 in
theorem one_any (b : Bool) (w : World) : Calls Try.prog 47 #[.bool b] w fun e w' => e = .returned (.int .i64 (oneI b)) ∧ w.grownBy w' none := by
  cases b
  all_goals
    go_enter Try.func47, Try.ntmps47
    go_wp2_with fail
    go_ret
    exact ⟨rfl, g_refl _ _⟩

set_option maxHeartbeats 1600000 in
theorem rone_any (b : Bool) (w : World) : Calls Try.prog 49 #[.bool b] w fun e w' => e = .returned (.agg #[.int .i64 1, .int .i64 (oneI b)]) ∧ w.grownBy w' none := by
  have gA := g_alloc (g_refl w none) (.cells #[.int .i64 0, .int .i64 0] 24)
  have hb := Blk.new w #[.int .i64 0, .int .i64 0] 24
  cases b
  · have hc := rnum_any 0
    have HB := Lib.hid hb
    clear hb
    go_enter Try.func49, Try.ntmps49
    go_wp2_with fail
    refine (hc _).mono ?_
    rintro e w1 ⟨rfl, g1⟩
    have c0 := (HB.out.keepn g1).cell 0 (.int .i64 0) rfl
    have c1 := (HB.out.keepn g1).cell 1 (.int .i64 0) rfl
    have f0 := (HB.out.keepn g1).free 0
    have f1 := (HB.out.keepn g1).free 1
    go_wp2_with fail
    have r0 := (((HB.out.keepn g1).set 0 (.int .i64 1)).set 1 (.int .i64 0)).cell 0 (.int .i64 1) rfl
    have r1 := (((HB.out.keepn g1).set 0 (.int .i64 1)).set 1 (.int .i64 0)).cell 1 (.int .i64 0) rfl
    exact bodyPost_ret (v := .agg #[.int .i64 1, .int .i64 0]) (by simp [results, Try.results49, go_sem, r0, r1]) rfl ⟨rfl, g_in (g_trans gA g1) (g_set (g_set (g_refl w1 (some w.heap.size)) (p := ⟨w.heap.size, 0, none⟩) (.inl rfl) _) (p := ⟨w.heap.size, 1, none⟩) (.inl rfl) _) (Nat.le_refl _)⟩
  · have hc := rnum_any 1
    have HB := Lib.hid hb
    clear hb
    go_enter Try.func49, Try.ntmps49
    go_wp2_with fail
    refine (hc _).mono ?_
    rintro e w1 ⟨rfl, g1⟩
    have c0 := (HB.out.keepn g1).cell 0 (.int .i64 0) rfl
    have c1 := (HB.out.keepn g1).cell 1 (.int .i64 0) rfl
    have f0 := (HB.out.keepn g1).free 0
    have f1 := (HB.out.keepn g1).free 1
    go_wp2_with fail
    have r0 := (((HB.out.keepn g1).set 0 (.int .i64 1)).set 1 (.int .i64 1)).cell 0 (.int .i64 1) rfl
    have r1 := (((HB.out.keepn g1).set 0 (.int .i64 1)).set 1 (.int .i64 1)).cell 1 (.int .i64 1) rfl
    exact bodyPost_ret (v := .agg #[.int .i64 1, .int .i64 1]) (by simp [results, Try.results49, go_sem, r0, r1]) rfl ⟨rfl, g_in (g_trans gA g1) (g_set (g_set (g_refl w1 (some w.heap.size)) (p := ⟨w.heap.size, 0, none⟩) (.inl rfl) _) (p := ⟨w.heap.size, 1, none⟩) (.inl rfl) _) (Nat.le_refl _)⟩

set_option maxHeartbeats 1600000 in
theorem add_c (n m : Int) (w : World) : Calls Try.prog 44 #[.int .i64 n, .int .i64 m] w fun e w' => e = .returned (.int .i64 (wrap64 (n + m))) ∧ w.grownBy w' none := by
  go_enter Try.func44, Try.ntmps44
  go_wp2_with fail
  go_ret
  exact ⟨rfl, g_refl _ _⟩


set_option maxHeartbeats 1600000 in
theorem sub_c (n m : Int) (w : World) : Calls Try.prog 45 #[.int .i64 n, .int .i64 m] w fun e w' => e = .returned (.int .i64 (wrap64 (n - m))) ∧ w.grownBy w' none := by
  go_enter Try.func45, Try.ntmps45
  go_wp2_with fail
  go_ret
  exact ⟨rfl, g_refl _ _⟩


set_option maxHeartbeats 1600000 in
theorem less_c (n m : Int) (w : World) : Calls Try.prog 46 #[.int .i64 n, .int .i64 m] w fun e w' => e = .returned (.int .i64 (oneI (decide (n < m)))) ∧ w.grownBy w' none := by
  go_enter Try.func46, Try.ntmps46
  go_wp2_with fail
  refine (one_any _ _).mono ?_
  rintro e w1 ⟨rfl, g1⟩
  go_wp2_with fail
  go_ret
  exact ⟨rfl, g1⟩

set_option maxHeartbeats 1600000 in
theorem both_any (k n l m : Int) (w : World) : Calls Try.prog 48 #[.agg #[.int .i64 k, .int .i64 n], .agg #[.int .i64 l, .int .i64 m]] w fun e w' => e = .returned (.bool (decide (k = 1 ∧ l = 1))) ∧ w.grownBy w' none := by
  by_cases h1 : k = 1
  · by_cases h2 : l = 1
    · subst h1 h2
      go_enter Try.func48, Try.ntmps48
      go_wp2_with fail
      go_ret
      exact ⟨rfl, g_alloc (g_alloc (g_refl _ _) _) _⟩
    · have q : (l == 1) = false := by simp [h2]
      rw [decide_eq_false (by omega)]
      subst h1
      go_enter Try.func48, Try.ntmps48
      go_wp2_with fail
      go_ret
      exact ⟨rfl, g_alloc (g_alloc (g_refl _ _) _) _⟩
  · have q : (k == 1) = false := by simp [h1]
    rw [decide_eq_false (by omega)]
    go_enter Try.func48, Try.ntmps48
    go_wp2_with fail
    go_ret
    exact ⟨rfl, g_alloc (g_alloc (g_refl _ _) _) _⟩

/-- what is made of two values -/
def nK (k l : Int) : Int := if k = 1 ∧ l = 1 then 1 else 0
def nN (k l r : Int) : Int := if k = 1 ∧ l = 1 then r else 0
def nE (k l : Int) : Int := if k = 1 ∧ l = 1 then 0 else 10
set_option maxHeartbeats 1600000 in
theorem number_add (k n l m : Int) (w : World) : Calls Try.prog 43 #[.agg #[.int .i64 k, .int .i64 n], .agg #[.int .i64 l, .int .i64 m], .func (.func 44) #[] #[]] w fun e w' => e = .returned (.tuple #[.agg #[.int .i64 (nK k l), .int .i64 (nN k l (wrap64 (n + m)))], .int .i64 (nE k l)]) ∧ w.grownBy w' none := by
  unfold nK nN nE
  by_cases h1 : k = 1
  · by_cases h2 : l = 1
    · subst h1 h2
      rw [if_pos ⟨rfl, rfl⟩, if_pos ⟨rfl, rfl⟩, if_pos ⟨rfl, rfl⟩]
      have hc := add_c n m
      generalize wrap64 (n + m) = r at *
      have b0 : Hid (Blk (((w.alloc (.cells #[.int .i64 1, .int .i64 n] 24)).alloc (.cells #[.int .i64 1, .int .i64 m] 24)).alloc (.cells #[.int .i64 0, .int .i64 0] 24)) (w.heap.size) #[.int .i64 1, .int .i64 n] 24) := Lib.hid (by have h := ((Blk.new w #[.int .i64 1, .int .i64 n] 24).keepn (g_alloc (g_refl (w.alloc (.cells #[.int .i64 1, .int .i64 n] 24)) none) (.cells #[.int .i64 1, .int .i64 m] 24))).keepn (g_alloc (g_refl ((w.alloc (.cells #[.int .i64 1, .int .i64 n] 24)).alloc (.cells #[.int .i64 1, .int .i64 m] 24)) none) (.cells #[.int .i64 0, .int .i64 0] 24)); simpa using h)
      have b1 : Hid (Blk (((w.alloc (.cells #[.int .i64 1, .int .i64 n] 24)).alloc (.cells #[.int .i64 1, .int .i64 m] 24)).alloc (.cells #[.int .i64 0, .int .i64 0] 24)) (w.heap.size + 1) #[.int .i64 1, .int .i64 m] 24) := Lib.hid (by have h := (Blk.new (w.alloc (.cells #[.int .i64 1, .int .i64 n] 24)) #[.int .i64 1, .int .i64 m] 24).keepn (g_alloc (g_refl ((w.alloc (.cells #[.int .i64 1, .int .i64 n] 24)).alloc (.cells #[.int .i64 1, .int .i64 m] 24)) none) (.cells #[.int .i64 0, .int .i64 0] 24)); simpa using h)
      have b2 : Hid (Blk (((w.alloc (.cells #[.int .i64 1, .int .i64 n] 24)).alloc (.cells #[.int .i64 1, .int .i64 m] 24)).alloc (.cells #[.int .i64 0, .int .i64 0] 24)) (w.heap.size + 1 + 1) #[.int .i64 0, .int .i64 0] 24) := Lib.hid (by have h := Blk.new ((w.alloc (.cells #[.int .i64 1, .int .i64 n] 24)).alloc (.cells #[.int .i64 1, .int .i64 m] 24)) #[.int .i64 0, .int .i64 0] 24; simpa using h)
      have bA := g_alloc (g_alloc (g_alloc (g_refl w none) (.cells #[.int .i64 1, .int .i64 n] 24)) (.cells #[.int .i64 1, .int .i64 m] 24)) (.cells #[.int .i64 0, .int .i64 0] 24)
      go_enter Try.func43, Try.ntmps43
      go_wp2_with fail
      refine (hc _).mono ?_
      rintro e w1 ⟨rfl, g1⟩
      go_wp2_with fail
      refine (num_any _ _).mono ?_
      rintro e w2 ⟨rfl, g2⟩
      have d2 := Lib.hid (b2.out.keepn (g_trans g1 g2))
      have d2_0 := d2.out.cell 0 (.int .i64 0) rfl
      have d2_1 := d2.out.cell 1 (.int .i64 0) rfl
      have df2_0 := d2.out.free 0
      have df2_1 := d2.out.free 1
      go_wp2_with fail
      have rr := ((d2.out.set 0 (.int .i64 1)).set 1 (.int .i64 r))
      have r0 := rr.cell 0 (.int .i64 1) rfl
      have r1 := rr.cell 1 (.int .i64 r) rfl
      exact bodyPost_ret (v := .tuple #[.agg #[.int .i64 1, .int .i64 r], .int .i64 0]) (by simp [results, Try.results43, go_sem, r0, r1]) rfl ⟨rfl, g_in (g_trans bA (g_trans g1 g2)) (g_set (g_set (g_refl w2 (some (w.heap.size + 1 + 1))) (p := ⟨w.heap.size + 1 + 1, 0, none⟩) (.inl rfl) _) (p := ⟨w.heap.size + 1 + 1, 1, none⟩) (.inl rfl) _) (by omega)⟩
    · have q : (l != 1) = true := by simp [h2]
      rw [if_neg (by omega), if_neg (by omega), if_neg (by omega)]
      subst h1
      go_enter Try.func43, Try.ntmps43
      go_wp2_with fail
      exact bodyPost_ret (v := .tuple #[.agg #[.int .i64 0, .int .i64 0], .int .i64 10]) (by simp [results, Try.results43, go_sem]) rfl ⟨rfl, g_alloc (g_alloc (g_alloc (g_refl _ _) _) _) _⟩
  · have q : (k != 1) = true := by simp [h1]
    rw [if_neg (by omega), if_neg (by omega), if_neg (by omega)]
    go_enter Try.func43, Try.ntmps43
    go_wp2_with fail
    exact bodyPost_ret (v := .tuple #[.agg #[.int .i64 0, .int .i64 0], .int .i64 10]) (by simp [results, Try.results43, go_sem]) rfl ⟨rfl, g_alloc (g_alloc (g_alloc (g_refl _ _) _) _) _⟩

set_option maxHeartbeats 1600000 in
theorem add_any (k n l m : Int) (w : World) : Calls Try.prog 32 #[.agg #[.int .i64 k, .int .i64 n], .agg #[.int .i64 l, .int .i64 m]] w fun e w' => e = .returned (.tuple #[.agg #[.int .i64 (nK k l), .int .i64 (nN k l (wrap64 (n + m)))], .int .i64 (nE k l)]) ∧ w.grownBy w' none := by
  have hc := number_add k n l m
  generalize nK k l = x at *
  generalize nN k l (wrap64 (n + m)) = y at *
  generalize nE k l = z at *
  have b0 : Hid (Blk (((w.alloc (.cells #[.int .i64 k, .int .i64 n] 24)).alloc (.cells #[.int .i64 l, .int .i64 m] 24)).alloc (.cells #[.int .i64 0, .int .i64 0] 24)) (w.heap.size) #[.int .i64 k, .int .i64 n] 24) := Lib.hid (by have h := ((Blk.new w #[.int .i64 k, .int .i64 n] 24).keepn (g_alloc (g_refl (w.alloc (.cells #[.int .i64 k, .int .i64 n] 24)) none) (.cells #[.int .i64 l, .int .i64 m] 24))).keepn (g_alloc (g_refl ((w.alloc (.cells #[.int .i64 k, .int .i64 n] 24)).alloc (.cells #[.int .i64 l, .int .i64 m] 24)) none) (.cells #[.int .i64 0, .int .i64 0] 24)); simpa using h)
  have b1 : Hid (Blk (((w.alloc (.cells #[.int .i64 k, .int .i64 n] 24)).alloc (.cells #[.int .i64 l, .int .i64 m] 24)).alloc (.cells #[.int .i64 0, .int .i64 0] 24)) (w.heap.size + 1) #[.int .i64 l, .int .i64 m] 24) := Lib.hid (by have h := (Blk.new (w.alloc (.cells #[.int .i64 k, .int .i64 n] 24)) #[.int .i64 l, .int .i64 m] 24).keepn (g_alloc (g_refl ((w.alloc (.cells #[.int .i64 k, .int .i64 n] 24)).alloc (.cells #[.int .i64 l, .int .i64 m] 24)) none) (.cells #[.int .i64 0, .int .i64 0] 24)); simpa using h)
  have b2 : Hid (Blk (((w.alloc (.cells #[.int .i64 k, .int .i64 n] 24)).alloc (.cells #[.int .i64 l, .int .i64 m] 24)).alloc (.cells #[.int .i64 0, .int .i64 0] 24)) (w.heap.size + 1 + 1) #[.int .i64 0, .int .i64 0] 24) := Lib.hid (by have h := Blk.new ((w.alloc (.cells #[.int .i64 k, .int .i64 n] 24)).alloc (.cells #[.int .i64 l, .int .i64 m] 24)) #[.int .i64 0, .int .i64 0] 24; simpa using h)
  have bA := g_alloc (g_alloc (g_alloc (g_refl w none) (.cells #[.int .i64 k, .int .i64 n] 24)) (.cells #[.int .i64 l, .int .i64 m] 24)) (.cells #[.int .i64 0, .int .i64 0] 24)
  go_enter Try.func32, Try.ntmps32
  go_wp2_with fail
  refine (hc _).mono ?_
  rintro e w1 ⟨rfl, g1⟩
  have d2 := Lib.hid (b2.out.keepn g1)
  have d2_0 := d2.out.cell 0 (.int .i64 0) rfl
  have d2_1 := d2.out.cell 1 (.int .i64 0) rfl
  have df2_0 := d2.out.free 0
  have df2_1 := d2.out.free 1
  go_wp2_with fail
  have rr := ((d2.out.set 0 (.int .i64 x)).set 1 (.int .i64 y))
  have r0 := rr.cell 0 (.int .i64 x) rfl
  have r1 := rr.cell 1 (.int .i64 y) rfl
  exact bodyPost_ret (v := .tuple #[.agg #[.int .i64 x, .int .i64 y], .int .i64 z]) (by simp [results, Try.results32, go_sem, r0, r1]) rfl ⟨rfl, g_in (g_trans bA g1) (g_set (g_set (g_refl w1 (some (w.heap.size + 1 + 1))) (p := ⟨w.heap.size + 1 + 1, 0, none⟩) (.inl rfl) _) (p := ⟨w.heap.size + 1 + 1, 1, none⟩) (.inl rfl) _) (by omega)⟩

set_option maxHeartbeats 1600000 in
theorem radd_any (k n l m : Int) (w : World) : Calls Try.prog 37 #[.agg #[.int .i64 k, .int .i64 n], .agg #[.int .i64 l, .int .i64 m]] w fun e w' => e = .returned (.tuple #[.agg #[.int .i64 (nK k l), .int .i64 (nN k l (wrap64 (n + m)))], .int .i64 (nE k l)]) ∧ w.grownBy w' none := by
  have hb := both_any k n l m
  unfold nK nN nE
  by_cases h : k = 1 ∧ l = 1
  · rw [if_pos h, if_pos h, if_pos h]
    rw [decide_eq_true h] at hb
    obtain ⟨rfl, rfl⟩ := h
    have b0 : Hid (Blk (((w.alloc (.cells #[.int .i64 1, .int .i64 n] 24)).alloc (.cells #[.int .i64 1, .int .i64 m] 24)).alloc (.cells #[.int .i64 0, .int .i64 0] 24)) (w.heap.size) #[.int .i64 1, .int .i64 n] 24) := Lib.hid (by have h := ((Blk.new w #[.int .i64 1, .int .i64 n] 24).keepn (g_alloc (g_refl (w.alloc (.cells #[.int .i64 1, .int .i64 n] 24)) none) (.cells #[.int .i64 1, .int .i64 m] 24))).keepn (g_alloc (g_refl ((w.alloc (.cells #[.int .i64 1, .int .i64 n] 24)).alloc (.cells #[.int .i64 1, .int .i64 m] 24)) none) (.cells #[.int .i64 0, .int .i64 0] 24)); simpa using h)
    have b1 : Hid (Blk (((w.alloc (.cells #[.int .i64 1, .int .i64 n] 24)).alloc (.cells #[.int .i64 1, .int .i64 m] 24)).alloc (.cells #[.int .i64 0, .int .i64 0] 24)) (w.heap.size + 1) #[.int .i64 1, .int .i64 m] 24) := Lib.hid (by have h := (Blk.new (w.alloc (.cells #[.int .i64 1, .int .i64 n] 24)) #[.int .i64 1, .int .i64 m] 24).keepn (g_alloc (g_refl ((w.alloc (.cells #[.int .i64 1, .int .i64 n] 24)).alloc (.cells #[.int .i64 1, .int .i64 m] 24)) none) (.cells #[.int .i64 0, .int .i64 0] 24)); simpa using h)
    have b2 : Hid (Blk (((w.alloc (.cells #[.int .i64 1, .int .i64 n] 24)).alloc (.cells #[.int .i64 1, .int .i64 m] 24)).alloc (.cells #[.int .i64 0, .int .i64 0] 24)) (w.heap.size + 1 + 1) #[.int .i64 0, .int .i64 0] 24) := Lib.hid (by have h := Blk.new ((w.alloc (.cells #[.int .i64 1, .int .i64 n] 24)).alloc (.cells #[.int .i64 1, .int .i64 m] 24)) #[.int .i64 0, .int .i64 0] 24; simpa using h)
    have bA := g_alloc (g_alloc (g_alloc (g_refl w none) (.cells #[.int .i64 1, .int .i64 n] 24)) (.cells #[.int .i64 1, .int .i64 m] 24)) (.cells #[.int .i64 0, .int .i64 0] 24)
    go_enter Try.func37, Try.ntmps37
    go_wp2_with fail
    refine (hb _).mono ?_
    rintro e w1 ⟨rfl, g1⟩
    have c0 := Lib.hid (b0.out.keepn g1)
    have c0_0 := c0.out.cell 0 (.int .i64 1) rfl
    have c0_1 := c0.out.cell 1 (.int .i64 n) rfl
    have cf0_0 := c0.out.free 0
    have cf0_1 := c0.out.free 1
    have c1 := Lib.hid (b1.out.keepn g1)
    have c1_0 := c1.out.cell 0 (.int .i64 1) rfl
    have c1_1 := c1.out.cell 1 (.int .i64 m) rfl
    have cf1_0 := c1.out.free 0
    have cf1_1 := c1.out.free 1
    have c2 := Lib.hid (b2.out.keepn g1)
    have c2_0 := c2.out.cell 0 (.int .i64 0) rfl
    have c2_1 := c2.out.cell 1 (.int .i64 0) rfl
    have cf2_0 := c2.out.free 0
    have cf2_1 := c2.out.free 1
    go_wp2_with fail
    refine (rnum_any _ _).mono ?_
    rintro e w2 ⟨rfl, g2⟩
    have d2 := Lib.hid (c2.out.keepn g2)
    have d2_0 := d2.out.cell 0 (.int .i64 0) rfl
    have d2_1 := d2.out.cell 1 (.int .i64 0) rfl
    have df2_0 := d2.out.free 0
    have df2_1 := d2.out.free 1
    go_wp2_with fail
    have rr := ((d2.out.set 0 (.int .i64 1)).set 1 (.int .i64 (wrap64 (n + m))))
    have r0 := rr.cell 0 (.int .i64 1) rfl
    have r1 := rr.cell 1 (.int .i64 (wrap64 (n + m))) rfl
    exact bodyPost_ret (v := .tuple #[.agg #[.int .i64 1, .int .i64 (wrap64 (n + m))], .int .i64 0]) (by simp [results, Try.results37, go_sem, r0, r1]) rfl ⟨rfl, g_in (g_trans bA (g_trans g1 g2)) (g_set (g_set (g_refl w2 (some (w.heap.size + 1 + 1))) (p := ⟨w.heap.size + 1 + 1, 0, none⟩) (.inl rfl) _) (p := ⟨w.heap.size + 1 + 1, 1, none⟩) (.inl rfl) _) (by omega)⟩
  · rw [if_neg h, if_neg h, if_neg h]
    rw [decide_eq_false h] at hb
    have b0 : Hid (Blk (((w.alloc (.cells #[.int .i64 k, .int .i64 n] 24)).alloc (.cells #[.int .i64 l, .int .i64 m] 24)).alloc (.cells #[.int .i64 0, .int .i64 0] 24)) (w.heap.size) #[.int .i64 k, .int .i64 n] 24) := Lib.hid (by have h := ((Blk.new w #[.int .i64 k, .int .i64 n] 24).keepn (g_alloc (g_refl (w.alloc (.cells #[.int .i64 k, .int .i64 n] 24)) none) (.cells #[.int .i64 l, .int .i64 m] 24))).keepn (g_alloc (g_refl ((w.alloc (.cells #[.int .i64 k, .int .i64 n] 24)).alloc (.cells #[.int .i64 l, .int .i64 m] 24)) none) (.cells #[.int .i64 0, .int .i64 0] 24)); simpa using h)
    have b1 : Hid (Blk (((w.alloc (.cells #[.int .i64 k, .int .i64 n] 24)).alloc (.cells #[.int .i64 l, .int .i64 m] 24)).alloc (.cells #[.int .i64 0, .int .i64 0] 24)) (w.heap.size + 1) #[.int .i64 l, .int .i64 m] 24) := Lib.hid (by have h := (Blk.new (w.alloc (.cells #[.int .i64 k, .int .i64 n] 24)) #[.int .i64 l, .int .i64 m] 24).keepn (g_alloc (g_refl ((w.alloc (.cells #[.int .i64 k, .int .i64 n] 24)).alloc (.cells #[.int .i64 l, .int .i64 m] 24)) none) (.cells #[.int .i64 0, .int .i64 0] 24)); simpa using h)
    have b2 : Hid (Blk (((w.alloc (.cells #[.int .i64 k, .int .i64 n] 24)).alloc (.cells #[.int .i64 l, .int .i64 m] 24)).alloc (.cells #[.int .i64 0, .int .i64 0] 24)) (w.heap.size + 1 + 1) #[.int .i64 0, .int .i64 0] 24) := Lib.hid (by have h := Blk.new ((w.alloc (.cells #[.int .i64 k, .int .i64 n] 24)).alloc (.cells #[.int .i64 l, .int .i64 m] 24)) #[.int .i64 0, .int .i64 0] 24; simpa using h)
    have bA := g_alloc (g_alloc (g_alloc (g_refl w none) (.cells #[.int .i64 k, .int .i64 n] 24)) (.cells #[.int .i64 l, .int .i64 m] 24)) (.cells #[.int .i64 0, .int .i64 0] 24)
    go_enter Try.func37, Try.ntmps37
    go_wp2_with fail
    refine (hb _).mono ?_
    rintro e w1 ⟨rfl, g1⟩
    have d2 := Lib.hid (b2.out.keepn g1)
    have d2_0 := d2.out.cell 0 (.int .i64 0) rfl
    have d2_1 := d2.out.cell 1 (.int .i64 0) rfl
    have df2_0 := d2.out.free 0
    have df2_1 := d2.out.free 1
    go_wp2_with fail
    have rr := ((d2.out.set 0 (.int .i64 0)).set 1 (.int .i64 0))
    have r0 := rr.cell 0 (.int .i64 0) rfl
    have r1 := rr.cell 1 (.int .i64 0) rfl
    exact bodyPost_ret (v := .tuple #[.agg #[.int .i64 0, .int .i64 0], .int .i64 10]) (by simp [results, Try.results37, go_sem, r0, r1]) rfl ⟨rfl, g_in (g_trans bA g1) (g_set (g_set (g_refl w1 (some (w.heap.size + 1 + 1))) (p := ⟨w.heap.size + 1 + 1, 0, none⟩) (.inl rfl) _) (p := ⟨w.heap.size + 1 + 1, 1, none⟩) (.inl rfl) _) (by omega)⟩

set_option maxHeartbeats 1600000 in
theorem number_sub (k n l m : Int) (w : World) : Calls Try.prog 43 #[.agg #[.int .i64 k, .int .i64 n], .agg #[.int .i64 l, .int .i64 m], .func (.func 45) #[] #[]] w fun e w' => e = .returned (.tuple #[.agg #[.int .i64 (nK k l), .int .i64 (nN k l (wrap64 (n - m)))], .int .i64 (nE k l)]) ∧ w.grownBy w' none := by
  unfold nK nN nE
  by_cases h1 : k = 1
  · by_cases h2 : l = 1
    · subst h1 h2
      rw [if_pos ⟨rfl, rfl⟩, if_pos ⟨rfl, rfl⟩, if_pos ⟨rfl, rfl⟩]
      have hc := sub_c n m
      generalize wrap64 (n - m) = r at *
      have b0 : Hid (Blk (((w.alloc (.cells #[.int .i64 1, .int .i64 n] 24)).alloc (.cells #[.int .i64 1, .int .i64 m] 24)).alloc (.cells #[.int .i64 0, .int .i64 0] 24)) (w.heap.size) #[.int .i64 1, .int .i64 n] 24) := Lib.hid (by have h := ((Blk.new w #[.int .i64 1, .int .i64 n] 24).keepn (g_alloc (g_refl (w.alloc (.cells #[.int .i64 1, .int .i64 n] 24)) none) (.cells #[.int .i64 1, .int .i64 m] 24))).keepn (g_alloc (g_refl ((w.alloc (.cells #[.int .i64 1, .int .i64 n] 24)).alloc (.cells #[.int .i64 1, .int .i64 m] 24)) none) (.cells #[.int .i64 0, .int .i64 0] 24)); simpa using h)
      have b1 : Hid (Blk (((w.alloc (.cells #[.int .i64 1, .int .i64 n] 24)).alloc (.cells #[.int .i64 1, .int .i64 m] 24)).alloc (.cells #[.int .i64 0, .int .i64 0] 24)) (w.heap.size + 1) #[.int .i64 1, .int .i64 m] 24) := Lib.hid (by have h := (Blk.new (w.alloc (.cells #[.int .i64 1, .int .i64 n] 24)) #[.int .i64 1, .int .i64 m] 24).keepn (g_alloc (g_refl ((w.alloc (.cells #[.int .i64 1, .int .i64 n] 24)).alloc (.cells #[.int .i64 1, .int .i64 m] 24)) none) (.cells #[.int .i64 0, .int .i64 0] 24)); simpa using h)
      have b2 : Hid (Blk (((w.alloc (.cells #[.int .i64 1, .int .i64 n] 24)).alloc (.cells #[.int .i64 1, .int .i64 m] 24)).alloc (.cells #[.int .i64 0, .int .i64 0] 24)) (w.heap.size + 1 + 1) #[.int .i64 0, .int .i64 0] 24) := Lib.hid (by have h := Blk.new ((w.alloc (.cells #[.int .i64 1, .int .i64 n] 24)).alloc (.cells #[.int .i64 1, .int .i64 m] 24)) #[.int .i64 0, .int .i64 0] 24; simpa using h)
      have bA := g_alloc (g_alloc (g_alloc (g_refl w none) (.cells #[.int .i64 1, .int .i64 n] 24)) (.cells #[.int .i64 1, .int .i64 m] 24)) (.cells #[.int .i64 0, .int .i64 0] 24)
      go_enter Try.func43, Try.ntmps43
      go_wp2_with fail
      refine (hc _).mono ?_
      rintro e w1 ⟨rfl, g1⟩
      go_wp2_with fail
      refine (num_any _ _).mono ?_
      rintro e w2 ⟨rfl, g2⟩
      have d2 := Lib.hid (b2.out.keepn (g_trans g1 g2))
      have d2_0 := d2.out.cell 0 (.int .i64 0) rfl
      have d2_1 := d2.out.cell 1 (.int .i64 0) rfl
      have df2_0 := d2.out.free 0
      have df2_1 := d2.out.free 1
      go_wp2_with fail
      have rr := ((d2.out.set 0 (.int .i64 1)).set 1 (.int .i64 r))
      have r0 := rr.cell 0 (.int .i64 1) rfl
      have r1 := rr.cell 1 (.int .i64 r) rfl
      exact bodyPost_ret (v := .tuple #[.agg #[.int .i64 1, .int .i64 r], .int .i64 0]) (by simp [results, Try.results43, go_sem, r0, r1]) rfl ⟨rfl, g_in (g_trans bA (g_trans g1 g2)) (g_set (g_set (g_refl w2 (some (w.heap.size + 1 + 1))) (p := ⟨w.heap.size + 1 + 1, 0, none⟩) (.inl rfl) _) (p := ⟨w.heap.size + 1 + 1, 1, none⟩) (.inl rfl) _) (by omega)⟩
    · have q : (l != 1) = true := by simp [h2]
      rw [if_neg (by omega), if_neg (by omega), if_neg (by omega)]
      subst h1
      go_enter Try.func43, Try.ntmps43
      go_wp2_with fail
      exact bodyPost_ret (v := .tuple #[.agg #[.int .i64 0, .int .i64 0], .int .i64 10]) (by simp [results, Try.results43, go_sem]) rfl ⟨rfl, g_alloc (g_alloc (g_alloc (g_refl _ _) _) _) _⟩
  · have q : (k != 1) = true := by simp [h1]
    rw [if_neg (by omega), if_neg (by omega), if_neg (by omega)]
    go_enter Try.func43, Try.ntmps43
    go_wp2_with fail
    exact bodyPost_ret (v := .tuple #[.agg #[.int .i64 0, .int .i64 0], .int .i64 10]) (by simp [results, Try.results43, go_sem]) rfl ⟨rfl, g_alloc (g_alloc (g_alloc (g_refl _ _) _) _) _⟩

set_option maxHeartbeats 1600000 in
theorem sub_any (k n l m : Int) (w : World) : Calls Try.prog 33 #[.agg #[.int .i64 k, .int .i64 n], .agg #[.int .i64 l, .int .i64 m]] w fun e w' => e = .returned (.tuple #[.agg #[.int .i64 (nK k l), .int .i64 (nN k l (wrap64 (n - m)))], .int .i64 (nE k l)]) ∧ w.grownBy w' none := by
  have hc := number_sub k n l m
  generalize nK k l = x at *
  generalize nN k l (wrap64 (n - m)) = y at *
  generalize nE k l = z at *
  have b0 : Hid (Blk (((w.alloc (.cells #[.int .i64 k, .int .i64 n] 24)).alloc (.cells #[.int .i64 l, .int .i64 m] 24)).alloc (.cells #[.int .i64 0, .int .i64 0] 24)) (w.heap.size) #[.int .i64 k, .int .i64 n] 24) := Lib.hid (by have h := ((Blk.new w #[.int .i64 k, .int .i64 n] 24).keepn (g_alloc (g_refl (w.alloc (.cells #[.int .i64 k, .int .i64 n] 24)) none) (.cells #[.int .i64 l, .int .i64 m] 24))).keepn (g_alloc (g_refl ((w.alloc (.cells #[.int .i64 k, .int .i64 n] 24)).alloc (.cells #[.int .i64 l, .int .i64 m] 24)) none) (.cells #[.int .i64 0, .int .i64 0] 24)); simpa using h)
  have b1 : Hid (Blk (((w.alloc (.cells #[.int .i64 k, .int .i64 n] 24)).alloc (.cells #[.int .i64 l, .int .i64 m] 24)).alloc (.cells #[.int .i64 0, .int .i64 0] 24)) (w.heap.size + 1) #[.int .i64 l, .int .i64 m] 24) := Lib.hid (by have h := (Blk.new (w.alloc (.cells #[.int .i64 k, .int .i64 n] 24)) #[.int .i64 l, .int .i64 m] 24).keepn (g_alloc (g_refl ((w.alloc (.cells #[.int .i64 k, .int .i64 n] 24)).alloc (.cells #[.int .i64 l, .int .i64 m] 24)) none) (.cells #[.int .i64 0, .int .i64 0] 24)); simpa using h)
  have b2 : Hid (Blk (((w.alloc (.cells #[.int .i64 k, .int .i64 n] 24)).alloc (.cells #[.int .i64 l, .int .i64 m] 24)).alloc (.cells #[.int .i64 0, .int .i64 0] 24)) (w.heap.size + 1 + 1) #[.int .i64 0, .int .i64 0] 24) := Lib.hid (by have h := Blk.new ((w.alloc (.cells #[.int .i64 k, .int .i64 n] 24)).alloc (.cells #[.int .i64 l, .int .i64 m] 24)) #[.int .i64 0, .int .i64 0] 24; simpa using h)
  have bA := g_alloc (g_alloc (g_alloc (g_refl w none) (.cells #[.int .i64 k, .int .i64 n] 24)) (.cells #[.int .i64 l, .int .i64 m] 24)) (.cells #[.int .i64 0, .int .i64 0] 24)
  go_enter Try.func33, Try.ntmps33
  go_wp2_with fail
  refine (hc _).mono ?_
  rintro e w1 ⟨rfl, g1⟩
  have d2 := Lib.hid (b2.out.keepn g1)
  have d2_0 := d2.out.cell 0 (.int .i64 0) rfl
  have d2_1 := d2.out.cell 1 (.int .i64 0) rfl
  have df2_0 := d2.out.free 0
  have df2_1 := d2.out.free 1
  go_wp2_with fail
  have rr := ((d2.out.set 0 (.int .i64 x)).set 1 (.int .i64 y))
  have r0 := rr.cell 0 (.int .i64 x) rfl
  have r1 := rr.cell 1 (.int .i64 y) rfl
  exact bodyPost_ret (v := .tuple #[.agg #[.int .i64 x, .int .i64 y], .int .i64 z]) (by simp [results, Try.results33, go_sem, r0, r1]) rfl ⟨rfl, g_in (g_trans bA g1) (g_set (g_set (g_refl w1 (some (w.heap.size + 1 + 1))) (p := ⟨w.heap.size + 1 + 1, 0, none⟩) (.inl rfl) _) (p := ⟨w.heap.size + 1 + 1, 1, none⟩) (.inl rfl) _) (by omega)⟩

set_option maxHeartbeats 1600000 in
theorem rsub_any (k n l m : Int) (w : World) : Calls Try.prog 38 #[.agg #[.int .i64 k, .int .i64 n], .agg #[.int .i64 l, .int .i64 m]] w fun e w' => e = .returned (.tuple #[.agg #[.int .i64 (nK k l), .int .i64 (nN k l (wrap64 (n - m)))], .int .i64 (nE k l)]) ∧ w.grownBy w' none := by
  have hb := both_any k n l m
  unfold nK nN nE
  by_cases h : k = 1 ∧ l = 1
  · rw [if_pos h, if_pos h, if_pos h]
    rw [decide_eq_true h] at hb
    obtain ⟨rfl, rfl⟩ := h
    have b0 : Hid (Blk (((w.alloc (.cells #[.int .i64 1, .int .i64 n] 24)).alloc (.cells #[.int .i64 1, .int .i64 m] 24)).alloc (.cells #[.int .i64 0, .int .i64 0] 24)) (w.heap.size) #[.int .i64 1, .int .i64 n] 24) := Lib.hid (by have h := ((Blk.new w #[.int .i64 1, .int .i64 n] 24).keepn (g_alloc (g_refl (w.alloc (.cells #[.int .i64 1, .int .i64 n] 24)) none) (.cells #[.int .i64 1, .int .i64 m] 24))).keepn (g_alloc (g_refl ((w.alloc (.cells #[.int .i64 1, .int .i64 n] 24)).alloc (.cells #[.int .i64 1, .int .i64 m] 24)) none) (.cells #[.int .i64 0, .int .i64 0] 24)); simpa using h)
    have b1 : Hid (Blk (((w.alloc (.cells #[.int .i64 1, .int .i64 n] 24)).alloc (.cells #[.int .i64 1, .int .i64 m] 24)).alloc (.cells #[.int .i64 0, .int .i64 0] 24)) (w.heap.size + 1) #[.int .i64 1, .int .i64 m] 24) := Lib.hid (by have h := (Blk.new (w.alloc (.cells #[.int .i64 1, .int .i64 n] 24)) #[.int .i64 1, .int .i64 m] 24).keepn (g_alloc (g_refl ((w.alloc (.cells #[.int .i64 1, .int .i64 n] 24)).alloc (.cells #[.int .i64 1, .int .i64 m] 24)) none) (.cells #[.int .i64 0, .int .i64 0] 24)); simpa using h)
    have b2 : Hid (Blk (((w.alloc (.cells #[.int .i64 1, .int .i64 n] 24)).alloc (.cells #[.int .i64 1, .int .i64 m] 24)).alloc (.cells #[.int .i64 0, .int .i64 0] 24)) (w.heap.size + 1 + 1) #[.int .i64 0, .int .i64 0] 24) := Lib.hid (by have h := Blk.new ((w.alloc (.cells #[.int .i64 1, .int .i64 n] 24)).alloc (.cells #[.int .i64 1, .int .i64 m] 24)) #[.int .i64 0, .int .i64 0] 24; simpa using h)
    have bA := g_alloc (g_alloc (g_alloc (g_refl w none) (.cells #[.int .i64 1, .int .i64 n] 24)) (.cells #[.int .i64 1, .int .i64 m] 24)) (.cells #[.int .i64 0, .int .i64 0] 24)
    go_enter Try.func38, Try.ntmps38
    go_wp2_with fail
    refine (hb _).mono ?_
    rintro e w1 ⟨rfl, g1⟩
    have c0 := Lib.hid (b0.out.keepn g1)
    have c0_0 := c0.out.cell 0 (.int .i64 1) rfl
    have c0_1 := c0.out.cell 1 (.int .i64 n) rfl
    have cf0_0 := c0.out.free 0
    have cf0_1 := c0.out.free 1
    have c1 := Lib.hid (b1.out.keepn g1)
    have c1_0 := c1.out.cell 0 (.int .i64 1) rfl
    have c1_1 := c1.out.cell 1 (.int .i64 m) rfl
    have cf1_0 := c1.out.free 0
    have cf1_1 := c1.out.free 1
    have c2 := Lib.hid (b2.out.keepn g1)
    have c2_0 := c2.out.cell 0 (.int .i64 0) rfl
    have c2_1 := c2.out.cell 1 (.int .i64 0) rfl
    have cf2_0 := c2.out.free 0
    have cf2_1 := c2.out.free 1
    go_wp2_with fail
    refine (rnum_any _ _).mono ?_
    rintro e w2 ⟨rfl, g2⟩
    have d2 := Lib.hid (c2.out.keepn g2)
    have d2_0 := d2.out.cell 0 (.int .i64 0) rfl
    have d2_1 := d2.out.cell 1 (.int .i64 0) rfl
    have df2_0 := d2.out.free 0
    have df2_1 := d2.out.free 1
    go_wp2_with fail
    have rr := ((d2.out.set 0 (.int .i64 1)).set 1 (.int .i64 (wrap64 (n - m))))
    have r0 := rr.cell 0 (.int .i64 1) rfl
    have r1 := rr.cell 1 (.int .i64 (wrap64 (n - m))) rfl
    exact bodyPost_ret (v := .tuple #[.agg #[.int .i64 1, .int .i64 (wrap64 (n - m))], .int .i64 0]) (by simp [results, Try.results38, go_sem, r0, r1]) rfl ⟨rfl, g_in (g_trans bA (g_trans g1 g2)) (g_set (g_set (g_refl w2 (some (w.heap.size + 1 + 1))) (p := ⟨w.heap.size + 1 + 1, 0, none⟩) (.inl rfl) _) (p := ⟨w.heap.size + 1 + 1, 1, none⟩) (.inl rfl) _) (by omega)⟩
  · rw [if_neg h, if_neg h, if_neg h]
    rw [decide_eq_false h] at hb
    have b0 : Hid (Blk (((w.alloc (.cells #[.int .i64 k, .int .i64 n] 24)).alloc (.cells #[.int .i64 l, .int .i64 m] 24)).alloc (.cells #[.int .i64 0, .int .i64 0] 24)) (w.heap.size) #[.int .i64 k, .int .i64 n] 24) := Lib.hid (by have h := ((Blk.new w #[.int .i64 k, .int .i64 n] 24).keepn (g_alloc (g_refl (w.alloc (.cells #[.int .i64 k, .int .i64 n] 24)) none) (.cells #[.int .i64 l, .int .i64 m] 24))).keepn (g_alloc (g_refl ((w.alloc (.cells #[.int .i64 k, .int .i64 n] 24)).alloc (.cells #[.int .i64 l, .int .i64 m] 24)) none) (.cells #[.int .i64 0, .int .i64 0] 24)); simpa using h)
    have b1 : Hid (Blk (((w.alloc (.cells #[.int .i64 k, .int .i64 n] 24)).alloc (.cells #[.int .i64 l, .int .i64 m] 24)).alloc (.cells #[.int .i64 0, .int .i64 0] 24)) (w.heap.size + 1) #[.int .i64 l, .int .i64 m] 24) := Lib.hid (by have h := (Blk.new (w.alloc (.cells #[.int .i64 k, .int .i64 n] 24)) #[.int .i64 l, .int .i64 m] 24).keepn (g_alloc (g_refl ((w.alloc (.cells #[.int .i64 k, .int .i64 n] 24)).alloc (.cells #[.int .i64 l, .int .i64 m] 24)) none) (.cells #[.int .i64 0, .int .i64 0] 24)); simpa using h)
    have b2 : Hid (Blk (((w.alloc (.cells #[.int .i64 k, .int .i64 n] 24)).alloc (.cells #[.int .i64 l, .int .i64 m] 24)).alloc (.cells #[.int .i64 0, .int .i64 0] 24)) (w.heap.size + 1 + 1) #[.int .i64 0, .int .i64 0] 24) := Lib.hid (by have h := Blk.new ((w.alloc (.cells #[.int .i64 k, .int .i64 n] 24)).alloc (.cells #[.int .i64 l, .int .i64 m] 24)) #[.int .i64 0, .int .i64 0] 24; simpa using h)
    have bA := g_alloc (g_alloc (g_alloc (g_refl w none) (.cells #[.int .i64 k, .int .i64 n] 24)) (.cells #[.int .i64 l, .int .i64 m] 24)) (.cells #[.int .i64 0, .int .i64 0] 24)
    go_enter Try.func38, Try.ntmps38
    go_wp2_with fail
    refine (hb _).mono ?_
    rintro e w1 ⟨rfl, g1⟩
    have d2 := Lib.hid (b2.out.keepn g1)
    have d2_0 := d2.out.cell 0 (.int .i64 0) rfl
    have d2_1 := d2.out.cell 1 (.int .i64 0) rfl
    have df2_0 := d2.out.free 0
    have df2_1 := d2.out.free 1
    go_wp2_with fail
    have rr := ((d2.out.set 0 (.int .i64 0)).set 1 (.int .i64 0))
    have r0 := rr.cell 0 (.int .i64 0) rfl
    have r1 := rr.cell 1 (.int .i64 0) rfl
    exact bodyPost_ret (v := .tuple #[.agg #[.int .i64 0, .int .i64 0], .int .i64 10]) (by simp [results, Try.results38, go_sem, r0, r1]) rfl ⟨rfl, g_in (g_trans bA g1) (g_set (g_set (g_refl w1 (some (w.heap.size + 1 + 1))) (p := ⟨w.heap.size + 1 + 1, 0, none⟩) (.inl rfl) _) (p := ⟨w.heap.size + 1 + 1, 1, none⟩) (.inl rfl) _) (by omega)⟩

set_option maxHeartbeats 1600000 in
theorem number_less (k n l m : Int) (w : World) : Calls Try.prog 43 #[.agg #[.int .i64 k, .int .i64 n], .agg #[.int .i64 l, .int .i64 m], .func (.func 46) #[] #[]] w fun e w' => e = .returned (.tuple #[.agg #[.int .i64 (nK k l), .int .i64 (nN k l (oneI (decide (n < m))))], .int .i64 (nE k l)]) ∧ w.grownBy w' none := by
  unfold nK nN nE
  by_cases h1 : k = 1
  · by_cases h2 : l = 1
    · subst h1 h2
      rw [if_pos ⟨rfl, rfl⟩, if_pos ⟨rfl, rfl⟩, if_pos ⟨rfl, rfl⟩]
      have hc := less_c n m
      generalize oneI (decide (n < m)) = r at *
      have b0 : Hid (Blk (((w.alloc (.cells #[.int .i64 1, .int .i64 n] 24)).alloc (.cells #[.int .i64 1, .int .i64 m] 24)).alloc (.cells #[.int .i64 0, .int .i64 0] 24)) (w.heap.size) #[.int .i64 1, .int .i64 n] 24) := Lib.hid (by have h := ((Blk.new w #[.int .i64 1, .int .i64 n] 24).keepn (g_alloc (g_refl (w.alloc (.cells #[.int .i64 1, .int .i64 n] 24)) none) (.cells #[.int .i64 1, .int .i64 m] 24))).keepn (g_alloc (g_refl ((w.alloc (.cells #[.int .i64 1, .int .i64 n] 24)).alloc (.cells #[.int .i64 1, .int .i64 m] 24)) none) (.cells #[.int .i64 0, .int .i64 0] 24)); simpa using h)
      have b1 : Hid (Blk (((w.alloc (.cells #[.int .i64 1, .int .i64 n] 24)).alloc (.cells #[.int .i64 1, .int .i64 m] 24)).alloc (.cells #[.int .i64 0, .int .i64 0] 24)) (w.heap.size + 1) #[.int .i64 1, .int .i64 m] 24) := Lib.hid (by have h := (Blk.new (w.alloc (.cells #[.int .i64 1, .int .i64 n] 24)) #[.int .i64 1, .int .i64 m] 24).keepn (g_alloc (g_refl ((w.alloc (.cells #[.int .i64 1, .int .i64 n] 24)).alloc (.cells #[.int .i64 1, .int .i64 m] 24)) none) (.cells #[.int .i64 0, .int .i64 0] 24)); simpa using h)
      have b2 : Hid (Blk (((w.alloc (.cells #[.int .i64 1, .int .i64 n] 24)).alloc (.cells #[.int .i64 1, .int .i64 m] 24)).alloc (.cells #[.int .i64 0, .int .i64 0] 24)) (w.heap.size + 1 + 1) #[.int .i64 0, .int .i64 0] 24) := Lib.hid (by have h := Blk.new ((w.alloc (.cells #[.int .i64 1, .int .i64 n] 24)).alloc (.cells #[.int .i64 1, .int .i64 m] 24)) #[.int .i64 0, .int .i64 0] 24; simpa using h)
      have bA := g_alloc (g_alloc (g_alloc (g_refl w none) (.cells #[.int .i64 1, .int .i64 n] 24)) (.cells #[.int .i64 1, .int .i64 m] 24)) (.cells #[.int .i64 0, .int .i64 0] 24)
      go_enter Try.func43, Try.ntmps43
      go_wp2_with fail
      refine (hc _).mono ?_
      rintro e w1 ⟨rfl, g1⟩
      go_wp2_with fail
      refine (num_any _ _).mono ?_
      rintro e w2 ⟨rfl, g2⟩
      have d2 := Lib.hid (b2.out.keepn (g_trans g1 g2))
      have d2_0 := d2.out.cell 0 (.int .i64 0) rfl
      have d2_1 := d2.out.cell 1 (.int .i64 0) rfl
      have df2_0 := d2.out.free 0
      have df2_1 := d2.out.free 1
      go_wp2_with fail
      have rr := ((d2.out.set 0 (.int .i64 1)).set 1 (.int .i64 r))
      have r0 := rr.cell 0 (.int .i64 1) rfl
      have r1 := rr.cell 1 (.int .i64 r) rfl
      exact bodyPost_ret (v := .tuple #[.agg #[.int .i64 1, .int .i64 r], .int .i64 0]) (by simp [results, Try.results43, go_sem, r0, r1]) rfl ⟨rfl, g_in (g_trans bA (g_trans g1 g2)) (g_set (g_set (g_refl w2 (some (w.heap.size + 1 + 1))) (p := ⟨w.heap.size + 1 + 1, 0, none⟩) (.inl rfl) _) (p := ⟨w.heap.size + 1 + 1, 1, none⟩) (.inl rfl) _) (by omega)⟩
    · have q : (l != 1) = true := by simp [h2]
      rw [if_neg (by omega), if_neg (by omega), if_neg (by omega)]
      subst h1
      go_enter Try.func43, Try.ntmps43
      go_wp2_with fail
      exact bodyPost_ret (v := .tuple #[.agg #[.int .i64 0, .int .i64 0], .int .i64 10]) (by simp [results, Try.results43, go_sem]) rfl ⟨rfl, g_alloc (g_alloc (g_alloc (g_refl _ _) _) _) _⟩
  · have q : (k != 1) = true := by simp [h1]
    rw [if_neg (by omega), if_neg (by omega), if_neg (by omega)]
    go_enter Try.func43, Try.ntmps43
    go_wp2_with fail
    exact bodyPost_ret (v := .tuple #[.agg #[.int .i64 0, .int .i64 0], .int .i64 10]) (by simp [results, Try.results43, go_sem]) rfl ⟨rfl, g_alloc (g_alloc (g_alloc (g_refl _ _) _) _) _⟩

set_option maxHeartbeats 1600000 in
theorem less_any (k n l m : Int) (w : World) : Calls Try.prog 34 #[.agg #[.int .i64 k, .int .i64 n], .agg #[.int .i64 l, .int .i64 m]] w fun e w' => e = .returned (.tuple #[.agg #[.int .i64 (nK k l), .int .i64 (nN k l (oneI (decide (n < m))))], .int .i64 (nE k l)]) ∧ w.grownBy w' none := by
  have hc := number_less k n l m
  generalize nK k l = x at *
  generalize nN k l (oneI (decide (n < m))) = y at *
  generalize nE k l = z at *
  have b0 : Hid (Blk (((w.alloc (.cells #[.int .i64 k, .int .i64 n] 24)).alloc (.cells #[.int .i64 l, .int .i64 m] 24)).alloc (.cells #[.int .i64 0, .int .i64 0] 24)) (w.heap.size) #[.int .i64 k, .int .i64 n] 24) := Lib.hid (by have h := ((Blk.new w #[.int .i64 k, .int .i64 n] 24).keepn (g_alloc (g_refl (w.alloc (.cells #[.int .i64 k, .int .i64 n] 24)) none) (.cells #[.int .i64 l, .int .i64 m] 24))).keepn (g_alloc (g_refl ((w.alloc (.cells #[.int .i64 k, .int .i64 n] 24)).alloc (.cells #[.int .i64 l, .int .i64 m] 24)) none) (.cells #[.int .i64 0, .int .i64 0] 24)); simpa using h)
  have b1 : Hid (Blk (((w.alloc (.cells #[.int .i64 k, .int .i64 n] 24)).alloc (.cells #[.int .i64 l, .int .i64 m] 24)).alloc (.cells #[.int .i64 0, .int .i64 0] 24)) (w.heap.size + 1) #[.int .i64 l, .int .i64 m] 24) := Lib.hid (by have h := (Blk.new (w.alloc (.cells #[.int .i64 k, .int .i64 n] 24)) #[.int .i64 l, .int .i64 m] 24).keepn (g_alloc (g_refl ((w.alloc (.cells #[.int .i64 k, .int .i64 n] 24)).alloc (.cells #[.int .i64 l, .int .i64 m] 24)) none) (.cells #[.int .i64 0, .int .i64 0] 24)); simpa using h)
  have b2 : Hid (Blk (((w.alloc (.cells #[.int .i64 k, .int .i64 n] 24)).alloc (.cells #[.int .i64 l, .int .i64 m] 24)).alloc (.cells #[.int .i64 0, .int .i64 0] 24)) (w.heap.size + 1 + 1) #[.int .i64 0, .int .i64 0] 24) := Lib.hid (by have h := Blk.new ((w.alloc (.cells #[.int .i64 k, .int .i64 n] 24)).alloc (.cells #[.int .i64 l, .int .i64 m] 24)) #[.int .i64 0, .int .i64 0] 24; simpa using h)
  have bA := g_alloc (g_alloc (g_alloc (g_refl w none) (.cells #[.int .i64 k, .int .i64 n] 24)) (.cells #[.int .i64 l, .int .i64 m] 24)) (.cells #[.int .i64 0, .int .i64 0] 24)
  go_enter Try.func34, Try.ntmps34
  go_wp2_with fail
  refine (hc _).mono ?_
  rintro e w1 ⟨rfl, g1⟩
  have d2 := Lib.hid (b2.out.keepn g1)
  have d2_0 := d2.out.cell 0 (.int .i64 0) rfl
  have d2_1 := d2.out.cell 1 (.int .i64 0) rfl
  have df2_0 := d2.out.free 0
  have df2_1 := d2.out.free 1
  go_wp2_with fail
  have rr := ((d2.out.set 0 (.int .i64 x)).set 1 (.int .i64 y))
  have r0 := rr.cell 0 (.int .i64 x) rfl
  have r1 := rr.cell 1 (.int .i64 y) rfl
  exact bodyPost_ret (v := .tuple #[.agg #[.int .i64 x, .int .i64 y], .int .i64 z]) (by simp [results, Try.results34, go_sem, r0, r1]) rfl ⟨rfl, g_in (g_trans bA g1) (g_set (g_set (g_refl w1 (some (w.heap.size + 1 + 1))) (p := ⟨w.heap.size + 1 + 1, 0, none⟩) (.inl rfl) _) (p := ⟨w.heap.size + 1 + 1, 1, none⟩) (.inl rfl) _) (by omega)⟩

set_option maxHeartbeats 1600000 in
theorem rless_any (k n l m : Int) (w : World) : Calls Try.prog 39 #[.agg #[.int .i64 k, .int .i64 n], .agg #[.int .i64 l, .int .i64 m]] w fun e w' => e = .returned (.tuple #[.agg #[.int .i64 (nK k l), .int .i64 (nN k l (oneI (decide (n < m))))], .int .i64 (nE k l)]) ∧ w.grownBy w' none := by
  have hb := both_any k n l m
  unfold nK nN nE
  by_cases h : k = 1 ∧ l = 1
  · rw [if_pos h, if_pos h, if_pos h]
    rw [decide_eq_true h] at hb
    obtain ⟨rfl, rfl⟩ := h
    have b0 : Hid (Blk (((w.alloc (.cells #[.int .i64 1, .int .i64 n] 24)).alloc (.cells #[.int .i64 1, .int .i64 m] 24)).alloc (.cells #[.int .i64 0, .int .i64 0] 24)) (w.heap.size) #[.int .i64 1, .int .i64 n] 24) := Lib.hid (by have h := ((Blk.new w #[.int .i64 1, .int .i64 n] 24).keepn (g_alloc (g_refl (w.alloc (.cells #[.int .i64 1, .int .i64 n] 24)) none) (.cells #[.int .i64 1, .int .i64 m] 24))).keepn (g_alloc (g_refl ((w.alloc (.cells #[.int .i64 1, .int .i64 n] 24)).alloc (.cells #[.int .i64 1, .int .i64 m] 24)) none) (.cells #[.int .i64 0, .int .i64 0] 24)); simpa using h)
    have b1 : Hid (Blk (((w.alloc (.cells #[.int .i64 1, .int .i64 n] 24)).alloc (.cells #[.int .i64 1, .int .i64 m] 24)).alloc (.cells #[.int .i64 0, .int .i64 0] 24)) (w.heap.size + 1) #[.int .i64 1, .int .i64 m] 24) := Lib.hid (by have h := (Blk.new (w.alloc (.cells #[.int .i64 1, .int .i64 n] 24)) #[.int .i64 1, .int .i64 m] 24).keepn (g_alloc (g_refl ((w.alloc (.cells #[.int .i64 1, .int .i64 n] 24)).alloc (.cells #[.int .i64 1, .int .i64 m] 24)) none) (.cells #[.int .i64 0, .int .i64 0] 24)); simpa using h)
    have b2 : Hid (Blk (((w.alloc (.cells #[.int .i64 1, .int .i64 n] 24)).alloc (.cells #[.int .i64 1, .int .i64 m] 24)).alloc (.cells #[.int .i64 0, .int .i64 0] 24)) (w.heap.size + 1 + 1) #[.int .i64 0, .int .i64 0] 24) := Lib.hid (by have h := Blk.new ((w.alloc (.cells #[.int .i64 1, .int .i64 n] 24)).alloc (.cells #[.int .i64 1, .int .i64 m] 24)) #[.int .i64 0, .int .i64 0] 24; simpa using h)
    have bA := g_alloc (g_alloc (g_alloc (g_refl w none) (.cells #[.int .i64 1, .int .i64 n] 24)) (.cells #[.int .i64 1, .int .i64 m] 24)) (.cells #[.int .i64 0, .int .i64 0] 24)
    go_enter Try.func39, Try.ntmps39
    go_wp2_with fail
    refine (hb _).mono ?_
    rintro e w1 ⟨rfl, g1⟩
    have c0 := Lib.hid (b0.out.keepn g1)
    have c0_0 := c0.out.cell 0 (.int .i64 1) rfl
    have c0_1 := c0.out.cell 1 (.int .i64 n) rfl
    have cf0_0 := c0.out.free 0
    have cf0_1 := c0.out.free 1
    have c1 := Lib.hid (b1.out.keepn g1)
    have c1_0 := c1.out.cell 0 (.int .i64 1) rfl
    have c1_1 := c1.out.cell 1 (.int .i64 m) rfl
    have cf1_0 := c1.out.free 0
    have cf1_1 := c1.out.free 1
    have c2 := Lib.hid (b2.out.keepn g1)
    have c2_0 := c2.out.cell 0 (.int .i64 0) rfl
    have c2_1 := c2.out.cell 1 (.int .i64 0) rfl
    have cf2_0 := c2.out.free 0
    have cf2_1 := c2.out.free 1
    go_wp2_with fail
    refine (rone_any _ _).mono ?_
    rintro e w2 ⟨rfl, g2⟩
    have d2 := Lib.hid (c2.out.keepn g2)
    have d2_0 := d2.out.cell 0 (.int .i64 0) rfl
    have d2_1 := d2.out.cell 1 (.int .i64 0) rfl
    have df2_0 := d2.out.free 0
    have df2_1 := d2.out.free 1
    go_wp2_with fail
    have rr := ((d2.out.set 0 (.int .i64 1)).set 1 (.int .i64 (oneI (decide (n < m)))))
    have r0 := rr.cell 0 (.int .i64 1) rfl
    have r1 := rr.cell 1 (.int .i64 (oneI (decide (n < m)))) rfl
    exact bodyPost_ret (v := .tuple #[.agg #[.int .i64 1, .int .i64 (oneI (decide (n < m)))], .int .i64 0]) (by simp [results, Try.results39, go_sem, r0, r1]) rfl ⟨rfl, g_in (g_trans bA (g_trans g1 g2)) (g_set (g_set (g_refl w2 (some (w.heap.size + 1 + 1))) (p := ⟨w.heap.size + 1 + 1, 0, none⟩) (.inl rfl) _) (p := ⟨w.heap.size + 1 + 1, 1, none⟩) (.inl rfl) _) (by omega)⟩
  · rw [if_neg h, if_neg h, if_neg h]
    rw [decide_eq_false h] at hb
    have b0 : Hid (Blk (((w.alloc (.cells #[.int .i64 k, .int .i64 n] 24)).alloc (.cells #[.int .i64 l, .int .i64 m] 24)).alloc (.cells #[.int .i64 0, .int .i64 0] 24)) (w.heap.size) #[.int .i64 k, .int .i64 n] 24) := Lib.hid (by have h := ((Blk.new w #[.int .i64 k, .int .i64 n] 24).keepn (g_alloc (g_refl (w.alloc (.cells #[.int .i64 k, .int .i64 n] 24)) none) (.cells #[.int .i64 l, .int .i64 m] 24))).keepn (g_alloc (g_refl ((w.alloc (.cells #[.int .i64 k, .int .i64 n] 24)).alloc (.cells #[.int .i64 l, .int .i64 m] 24)) none) (.cells #[.int .i64 0, .int .i64 0] 24)); simpa using h)
    have b1 : Hid (Blk (((w.alloc (.cells #[.int .i64 k, .int .i64 n] 24)).alloc (.cells #[.int .i64 l, .int .i64 m] 24)).alloc (.cells #[.int .i64 0, .int .i64 0] 24)) (w.heap.size + 1) #[.int .i64 l, .int .i64 m] 24) := Lib.hid (by have h := (Blk.new (w.alloc (.cells #[.int .i64 k, .int .i64 n] 24)) #[.int .i64 l, .int .i64 m] 24).keepn (g_alloc (g_refl ((w.alloc (.cells #[.int .i64 k, .int .i64 n] 24)).alloc (.cells #[.int .i64 l, .int .i64 m] 24)) none) (.cells #[.int .i64 0, .int .i64 0] 24)); simpa using h)
    have b2 : Hid (Blk (((w.alloc (.cells #[.int .i64 k, .int .i64 n] 24)).alloc (.cells #[.int .i64 l, .int .i64 m] 24)).alloc (.cells #[.int .i64 0, .int .i64 0] 24)) (w.heap.size + 1 + 1) #[.int .i64 0, .int .i64 0] 24) := Lib.hid (by have h := Blk.new ((w.alloc (.cells #[.int .i64 k, .int .i64 n] 24)).alloc (.cells #[.int .i64 l, .int .i64 m] 24)) #[.int .i64 0, .int .i64 0] 24; simpa using h)
    have bA := g_alloc (g_alloc (g_alloc (g_refl w none) (.cells #[.int .i64 k, .int .i64 n] 24)) (.cells #[.int .i64 l, .int .i64 m] 24)) (.cells #[.int .i64 0, .int .i64 0] 24)
    go_enter Try.func39, Try.ntmps39
    go_wp2_with fail
    refine (hb _).mono ?_
    rintro e w1 ⟨rfl, g1⟩
    have d2 := Lib.hid (b2.out.keepn g1)
    have d2_0 := d2.out.cell 0 (.int .i64 0) rfl
    have d2_1 := d2.out.cell 1 (.int .i64 0) rfl
    have df2_0 := d2.out.free 0
    have df2_1 := d2.out.free 1
    go_wp2_with fail
    have rr := ((d2.out.set 0 (.int .i64 0)).set 1 (.int .i64 0))
    have r0 := rr.cell 0 (.int .i64 0) rfl
    have r1 := rr.cell 1 (.int .i64 0) rfl
    exact bodyPost_ret (v := .tuple #[.agg #[.int .i64 0, .int .i64 0], .int .i64 10]) (by simp [results, Try.results39, go_sem, r0, r1]) rfl ⟨rfl, g_in (g_trans bA g1) (g_set (g_set (g_refl w1 (some (w.heap.size + 1 + 1))) (p := ⟨w.heap.size + 1 + 1, 0, none⟩) (.inl rfl) _) (p := ⟨w.heap.size + 1 + 1, 1, none⟩) (.inl rfl) _) (by omega)⟩

def sameB (k n l m : Int) : Bool := k == l && n == m
def zeroB (k n : Int) : Bool := decide (n = 0 ∧ (k = 1 ∨ k = 2))
set_option maxHeartbeats 1600000 in
theorem equal_any (k n l m : Int) (w : World) : Calls Try.prog 35 #[.agg #[.int .i64 k, .int .i64 n], .agg #[.int .i64 l, .int .i64 m]] w fun e w' => e = .returned (.agg #[.int .i64 1, .int .i64 (oneI (sameB k n l m))]) ∧ w.grownBy w' none := by
  by_cases h1 : k = l
  · by_cases h2 : n = m
    · subst h1 h2
      rw [show sameB k n k n = true from by simp [sameB]]
      have b0 : Hid (Blk (((w.alloc (.cells #[.int .i64 k, .int .i64 n] 24)).alloc (.cells #[.int .i64 k, .int .i64 n] 24)).alloc (.cells #[.int .i64 0, .int .i64 0] 24)) (w.heap.size) #[.int .i64 k, .int .i64 n] 24) := Lib.hid (by have h := ((Blk.new w #[.int .i64 k, .int .i64 n] 24).keepn (g_alloc (g_refl (w.alloc (.cells #[.int .i64 k, .int .i64 n] 24)) none) (.cells #[.int .i64 k, .int .i64 n] 24))).keepn (g_alloc (g_refl ((w.alloc (.cells #[.int .i64 k, .int .i64 n] 24)).alloc (.cells #[.int .i64 k, .int .i64 n] 24)) none) (.cells #[.int .i64 0, .int .i64 0] 24)); simpa using h)
      have b1 : Hid (Blk (((w.alloc (.cells #[.int .i64 k, .int .i64 n] 24)).alloc (.cells #[.int .i64 k, .int .i64 n] 24)).alloc (.cells #[.int .i64 0, .int .i64 0] 24)) (w.heap.size + 1) #[.int .i64 k, .int .i64 n] 24) := Lib.hid (by have h := (Blk.new (w.alloc (.cells #[.int .i64 k, .int .i64 n] 24)) #[.int .i64 k, .int .i64 n] 24).keepn (g_alloc (g_refl ((w.alloc (.cells #[.int .i64 k, .int .i64 n] 24)).alloc (.cells #[.int .i64 k, .int .i64 n] 24)) none) (.cells #[.int .i64 0, .int .i64 0] 24)); simpa using h)
      have b2 : Hid (Blk (((w.alloc (.cells #[.int .i64 k, .int .i64 n] 24)).alloc (.cells #[.int .i64 k, .int .i64 n] 24)).alloc (.cells #[.int .i64 0, .int .i64 0] 24)) (w.heap.size + 1 + 1) #[.int .i64 0, .int .i64 0] 24) := Lib.hid (by have h := Blk.new ((w.alloc (.cells #[.int .i64 k, .int .i64 n] 24)).alloc (.cells #[.int .i64 k, .int .i64 n] 24)) #[.int .i64 0, .int .i64 0] 24; simpa using h)
      have bA := g_alloc (g_alloc (g_alloc (g_refl w none) (.cells #[.int .i64 k, .int .i64 n] 24)) (.cells #[.int .i64 k, .int .i64 n] 24)) (.cells #[.int .i64 0, .int .i64 0] 24)
      go_enter Try.func35, Try.ntmps35
      go_wp2_with fail
      refine (one_any _ _).mono ?_
      rintro e w1 ⟨rfl, g1⟩
      go_wp2_with fail
      refine (num_any _ _).mono ?_
      rintro e w2 ⟨rfl, g2⟩
      have d2 := Lib.hid (b2.out.keepn (g_trans g1 g2))
      have d2_0 := d2.out.cell 0 (.int .i64 0) rfl
      have d2_1 := d2.out.cell 1 (.int .i64 0) rfl
      have df2_0 := d2.out.free 0
      have df2_1 := d2.out.free 1
      go_wp2_with fail
      have rr := ((d2.out.set 0 (.int .i64 1)).set 1 (.int .i64 (oneI true)))
      have r0 := rr.cell 0 (.int .i64 1) rfl
      have r1 := rr.cell 1 (.int .i64 (oneI true)) rfl
      exact bodyPost_ret (v := .agg #[.int .i64 1, .int .i64 (oneI true)]) (by simp [results, Try.results35, go_sem, r0, r1]) rfl ⟨rfl, g_in (g_trans bA (g_trans g1 g2)) (g_set (g_set (g_refl w2 (some (w.heap.size + 1 + 1))) (p := ⟨w.heap.size + 1 + 1, 0, none⟩) (.inl rfl) _) (p := ⟨w.heap.size + 1 + 1, 1, none⟩) (.inl rfl) _) (by omega)⟩
    · subst h1
      rw [show sameB k n k m = false from by simp [sameB, h2]]
      have q : (n == m) = false := by simp [h2]
      have b0 : Hid (Blk (((w.alloc (.cells #[.int .i64 k, .int .i64 n] 24)).alloc (.cells #[.int .i64 k, .int .i64 m] 24)).alloc (.cells #[.int .i64 0, .int .i64 0] 24)) (w.heap.size) #[.int .i64 k, .int .i64 n] 24) := Lib.hid (by have h := ((Blk.new w #[.int .i64 k, .int .i64 n] 24).keepn (g_alloc (g_refl (w.alloc (.cells #[.int .i64 k, .int .i64 n] 24)) none) (.cells #[.int .i64 k, .int .i64 m] 24))).keepn (g_alloc (g_refl ((w.alloc (.cells #[.int .i64 k, .int .i64 n] 24)).alloc (.cells #[.int .i64 k, .int .i64 m] 24)) none) (.cells #[.int .i64 0, .int .i64 0] 24)); simpa using h)
      have b1 : Hid (Blk (((w.alloc (.cells #[.int .i64 k, .int .i64 n] 24)).alloc (.cells #[.int .i64 k, .int .i64 m] 24)).alloc (.cells #[.int .i64 0, .int .i64 0] 24)) (w.heap.size + 1) #[.int .i64 k, .int .i64 m] 24) := Lib.hid (by have h := (Blk.new (w.alloc (.cells #[.int .i64 k, .int .i64 n] 24)) #[.int .i64 k, .int .i64 m] 24).keepn (g_alloc (g_refl ((w.alloc (.cells #[.int .i64 k, .int .i64 n] 24)).alloc (.cells #[.int .i64 k, .int .i64 m] 24)) none) (.cells #[.int .i64 0, .int .i64 0] 24)); simpa using h)
      have b2 : Hid (Blk (((w.alloc (.cells #[.int .i64 k, .int .i64 n] 24)).alloc (.cells #[.int .i64 k, .int .i64 m] 24)).alloc (.cells #[.int .i64 0, .int .i64 0] 24)) (w.heap.size + 1 + 1) #[.int .i64 0, .int .i64 0] 24) := Lib.hid (by have h := Blk.new ((w.alloc (.cells #[.int .i64 k, .int .i64 n] 24)).alloc (.cells #[.int .i64 k, .int .i64 m] 24)) #[.int .i64 0, .int .i64 0] 24; simpa using h)
      have bA := g_alloc (g_alloc (g_alloc (g_refl w none) (.cells #[.int .i64 k, .int .i64 n] 24)) (.cells #[.int .i64 k, .int .i64 m] 24)) (.cells #[.int .i64 0, .int .i64 0] 24)
      go_enter Try.func35, Try.ntmps35
      go_wp2_with fail
      refine (one_any _ _).mono ?_
      rintro e w1 ⟨rfl, g1⟩
      go_wp2_with fail
      refine (num_any _ _).mono ?_
      rintro e w2 ⟨rfl, g2⟩
      have d2 := Lib.hid (b2.out.keepn (g_trans g1 g2))
      have d2_0 := d2.out.cell 0 (.int .i64 0) rfl
      have d2_1 := d2.out.cell 1 (.int .i64 0) rfl
      have df2_0 := d2.out.free 0
      have df2_1 := d2.out.free 1
      go_wp2_with fail
      have rr := ((d2.out.set 0 (.int .i64 1)).set 1 (.int .i64 (oneI false)))
      have r0 := rr.cell 0 (.int .i64 1) rfl
      have r1 := rr.cell 1 (.int .i64 (oneI false)) rfl
      exact bodyPost_ret (v := .agg #[.int .i64 1, .int .i64 (oneI false)]) (by simp [results, Try.results35, go_sem, r0, r1]) rfl ⟨rfl, g_in (g_trans bA (g_trans g1 g2)) (g_set (g_set (g_refl w2 (some (w.heap.size + 1 + 1))) (p := ⟨w.heap.size + 1 + 1, 0, none⟩) (.inl rfl) _) (p := ⟨w.heap.size + 1 + 1, 1, none⟩) (.inl rfl) _) (by omega)⟩
  · rw [show sameB k n l m = false from by simp [sameB, h1]]
    have q : (k == l) = false := by simp [h1]
    have b0 : Hid (Blk (((w.alloc (.cells #[.int .i64 k, .int .i64 n] 24)).alloc (.cells #[.int .i64 l, .int .i64 m] 24)).alloc (.cells #[.int .i64 0, .int .i64 0] 24)) (w.heap.size) #[.int .i64 k, .int .i64 n] 24) := Lib.hid (by have h := ((Blk.new w #[.int .i64 k, .int .i64 n] 24).keepn (g_alloc (g_refl (w.alloc (.cells #[.int .i64 k, .int .i64 n] 24)) none) (.cells #[.int .i64 l, .int .i64 m] 24))).keepn (g_alloc (g_refl ((w.alloc (.cells #[.int .i64 k, .int .i64 n] 24)).alloc (.cells #[.int .i64 l, .int .i64 m] 24)) none) (.cells #[.int .i64 0, .int .i64 0] 24)); simpa using h)
    have b1 : Hid (Blk (((w.alloc (.cells #[.int .i64 k, .int .i64 n] 24)).alloc (.cells #[.int .i64 l, .int .i64 m] 24)).alloc (.cells #[.int .i64 0, .int .i64 0] 24)) (w.heap.size + 1) #[.int .i64 l, .int .i64 m] 24) := Lib.hid (by have h := (Blk.new (w.alloc (.cells #[.int .i64 k, .int .i64 n] 24)) #[.int .i64 l, .int .i64 m] 24).keepn (g_alloc (g_refl ((w.alloc (.cells #[.int .i64 k, .int .i64 n] 24)).alloc (.cells #[.int .i64 l, .int .i64 m] 24)) none) (.cells #[.int .i64 0, .int .i64 0] 24)); simpa using h)
    have b2 : Hid (Blk (((w.alloc (.cells #[.int .i64 k, .int .i64 n] 24)).alloc (.cells #[.int .i64 l, .int .i64 m] 24)).alloc (.cells #[.int .i64 0, .int .i64 0] 24)) (w.heap.size + 1 + 1) #[.int .i64 0, .int .i64 0] 24) := Lib.hid (by have h := Blk.new ((w.alloc (.cells #[.int .i64 k, .int .i64 n] 24)).alloc (.cells #[.int .i64 l, .int .i64 m] 24)) #[.int .i64 0, .int .i64 0] 24; simpa using h)
    have bA := g_alloc (g_alloc (g_alloc (g_refl w none) (.cells #[.int .i64 k, .int .i64 n] 24)) (.cells #[.int .i64 l, .int .i64 m] 24)) (.cells #[.int .i64 0, .int .i64 0] 24)
    go_enter Try.func35, Try.ntmps35
    go_wp2_with fail
    refine (one_any _ _).mono ?_
    rintro e w1 ⟨rfl, g1⟩
    go_wp2_with fail
    refine (num_any _ _).mono ?_
    rintro e w2 ⟨rfl, g2⟩
    have d2 := Lib.hid (b2.out.keepn (g_trans g1 g2))
    have d2_0 := d2.out.cell 0 (.int .i64 0) rfl
    have d2_1 := d2.out.cell 1 (.int .i64 0) rfl
    have df2_0 := d2.out.free 0
    have df2_1 := d2.out.free 1
    go_wp2_with fail
    have rr := ((d2.out.set 0 (.int .i64 1)).set 1 (.int .i64 (oneI false)))
    have r0 := rr.cell 0 (.int .i64 1) rfl
    have r1 := rr.cell 1 (.int .i64 (oneI false)) rfl
    exact bodyPost_ret (v := .agg #[.int .i64 1, .int .i64 (oneI false)]) (by simp [results, Try.results35, go_sem, r0, r1]) rfl ⟨rfl, g_in (g_trans bA (g_trans g1 g2)) (g_set (g_set (g_refl w2 (some (w.heap.size + 1 + 1))) (p := ⟨w.heap.size + 1 + 1, 0, none⟩) (.inl rfl) _) (p := ⟨w.heap.size + 1 + 1, 1, none⟩) (.inl rfl) _) (by omega)⟩

set_option maxHeartbeats 1600000 in
theorem requal_any (k n l m : Int) (w : World) : Calls Try.prog 40 #[.agg #[.int .i64 k, .int .i64 n], .agg #[.int .i64 l, .int .i64 m]] w fun e w' => e = .returned (.agg #[.int .i64 1, .int .i64 (oneI (sameB k n l m))]) ∧ w.grownBy w' none := by
  by_cases h1 : k = l
  · by_cases h2 : n = m
    · subst h1 h2
      rw [show sameB k n k n = true from by simp [sameB]]
      have b0 : Hid (Blk (((w.alloc (.cells #[.int .i64 k, .int .i64 n] 24)).alloc (.cells #[.int .i64 k, .int .i64 n] 24)).alloc (.cells #[.int .i64 0, .int .i64 0] 24)) (w.heap.size) #[.int .i64 k, .int .i64 n] 24) := Lib.hid (by have h := ((Blk.new w #[.int .i64 k, .int .i64 n] 24).keepn (g_alloc (g_refl (w.alloc (.cells #[.int .i64 k, .int .i64 n] 24)) none) (.cells #[.int .i64 k, .int .i64 n] 24))).keepn (g_alloc (g_refl ((w.alloc (.cells #[.int .i64 k, .int .i64 n] 24)).alloc (.cells #[.int .i64 k, .int .i64 n] 24)) none) (.cells #[.int .i64 0, .int .i64 0] 24)); simpa using h)
      have b1 : Hid (Blk (((w.alloc (.cells #[.int .i64 k, .int .i64 n] 24)).alloc (.cells #[.int .i64 k, .int .i64 n] 24)).alloc (.cells #[.int .i64 0, .int .i64 0] 24)) (w.heap.size + 1) #[.int .i64 k, .int .i64 n] 24) := Lib.hid (by have h := (Blk.new (w.alloc (.cells #[.int .i64 k, .int .i64 n] 24)) #[.int .i64 k, .int .i64 n] 24).keepn (g_alloc (g_refl ((w.alloc (.cells #[.int .i64 k, .int .i64 n] 24)).alloc (.cells #[.int .i64 k, .int .i64 n] 24)) none) (.cells #[.int .i64 0, .int .i64 0] 24)); simpa using h)
      have b2 : Hid (Blk (((w.alloc (.cells #[.int .i64 k, .int .i64 n] 24)).alloc (.cells #[.int .i64 k, .int .i64 n] 24)).alloc (.cells #[.int .i64 0, .int .i64 0] 24)) (w.heap.size + 1 + 1) #[.int .i64 0, .int .i64 0] 24) := Lib.hid (by have h := Blk.new ((w.alloc (.cells #[.int .i64 k, .int .i64 n] 24)).alloc (.cells #[.int .i64 k, .int .i64 n] 24)) #[.int .i64 0, .int .i64 0] 24; simpa using h)
      have bA := g_alloc (g_alloc (g_alloc (g_refl w none) (.cells #[.int .i64 k, .int .i64 n] 24)) (.cells #[.int .i64 k, .int .i64 n] 24)) (.cells #[.int .i64 0, .int .i64 0] 24)
      go_enter Try.func40, Try.ntmps40
      go_wp2_with fail
      refine (rone_any _ _).mono ?_
      rintro e w1 ⟨rfl, g1⟩
      have d2 := Lib.hid (b2.out.keepn g1)
      have d2_0 := d2.out.cell 0 (.int .i64 0) rfl
      have d2_1 := d2.out.cell 1 (.int .i64 0) rfl
      have df2_0 := d2.out.free 0
      have df2_1 := d2.out.free 1
      go_wp2_with fail
      have rr := ((d2.out.set 0 (.int .i64 1)).set 1 (.int .i64 (oneI true)))
      have r0 := rr.cell 0 (.int .i64 1) rfl
      have r1 := rr.cell 1 (.int .i64 (oneI true)) rfl
      exact bodyPost_ret (v := .agg #[.int .i64 1, .int .i64 (oneI true)]) (by simp [results, Try.results40, go_sem, r0, r1]) rfl ⟨rfl, g_in (g_trans bA g1) (g_set (g_set (g_refl w1 (some (w.heap.size + 1 + 1))) (p := ⟨w.heap.size + 1 + 1, 0, none⟩) (.inl rfl) _) (p := ⟨w.heap.size + 1 + 1, 1, none⟩) (.inl rfl) _) (by omega)⟩
    · subst h1
      rw [show sameB k n k m = false from by simp [sameB, h2]]
      have q : (n == m) = false := by simp [h2]
      have b0 : Hid (Blk (((w.alloc (.cells #[.int .i64 k, .int .i64 n] 24)).alloc (.cells #[.int .i64 k, .int .i64 m] 24)).alloc (.cells #[.int .i64 0, .int .i64 0] 24)) (w.heap.size) #[.int .i64 k, .int .i64 n] 24) := Lib.hid (by have h := ((Blk.new w #[.int .i64 k, .int .i64 n] 24).keepn (g_alloc (g_refl (w.alloc (.cells #[.int .i64 k, .int .i64 n] 24)) none) (.cells #[.int .i64 k, .int .i64 m] 24))).keepn (g_alloc (g_refl ((w.alloc (.cells #[.int .i64 k, .int .i64 n] 24)).alloc (.cells #[.int .i64 k, .int .i64 m] 24)) none) (.cells #[.int .i64 0, .int .i64 0] 24)); simpa using h)
      have b1 : Hid (Blk (((w.alloc (.cells #[.int .i64 k, .int .i64 n] 24)).alloc (.cells #[.int .i64 k, .int .i64 m] 24)).alloc (.cells #[.int .i64 0, .int .i64 0] 24)) (w.heap.size + 1) #[.int .i64 k, .int .i64 m] 24) := Lib.hid (by have h := (Blk.new (w.alloc (.cells #[.int .i64 k, .int .i64 n] 24)) #[.int .i64 k, .int .i64 m] 24).keepn (g_alloc (g_refl ((w.alloc (.cells #[.int .i64 k, .int .i64 n] 24)).alloc (.cells #[.int .i64 k, .int .i64 m] 24)) none) (.cells #[.int .i64 0, .int .i64 0] 24)); simpa using h)
      have b2 : Hid (Blk (((w.alloc (.cells #[.int .i64 k, .int .i64 n] 24)).alloc (.cells #[.int .i64 k, .int .i64 m] 24)).alloc (.cells #[.int .i64 0, .int .i64 0] 24)) (w.heap.size + 1 + 1) #[.int .i64 0, .int .i64 0] 24) := Lib.hid (by have h := Blk.new ((w.alloc (.cells #[.int .i64 k, .int .i64 n] 24)).alloc (.cells #[.int .i64 k, .int .i64 m] 24)) #[.int .i64 0, .int .i64 0] 24; simpa using h)
      have bA := g_alloc (g_alloc (g_alloc (g_refl w none) (.cells #[.int .i64 k, .int .i64 n] 24)) (.cells #[.int .i64 k, .int .i64 m] 24)) (.cells #[.int .i64 0, .int .i64 0] 24)
      go_enter Try.func40, Try.ntmps40
      go_wp2_with fail
      refine (rone_any _ _).mono ?_
      rintro e w1 ⟨rfl, g1⟩
      have d2 := Lib.hid (b2.out.keepn g1)
      have d2_0 := d2.out.cell 0 (.int .i64 0) rfl
      have d2_1 := d2.out.cell 1 (.int .i64 0) rfl
      have df2_0 := d2.out.free 0
      have df2_1 := d2.out.free 1
      go_wp2_with fail
      have rr := ((d2.out.set 0 (.int .i64 1)).set 1 (.int .i64 (oneI false)))
      have r0 := rr.cell 0 (.int .i64 1) rfl
      have r1 := rr.cell 1 (.int .i64 (oneI false)) rfl
      exact bodyPost_ret (v := .agg #[.int .i64 1, .int .i64 (oneI false)]) (by simp [results, Try.results40, go_sem, r0, r1]) rfl ⟨rfl, g_in (g_trans bA g1) (g_set (g_set (g_refl w1 (some (w.heap.size + 1 + 1))) (p := ⟨w.heap.size + 1 + 1, 0, none⟩) (.inl rfl) _) (p := ⟨w.heap.size + 1 + 1, 1, none⟩) (.inl rfl) _) (by omega)⟩
  · rw [show sameB k n l m = false from by simp [sameB, h1]]
    have q : (k == l) = false := by simp [h1]
    have b0 : Hid (Blk (((w.alloc (.cells #[.int .i64 k, .int .i64 n] 24)).alloc (.cells #[.int .i64 l, .int .i64 m] 24)).alloc (.cells #[.int .i64 0, .int .i64 0] 24)) (w.heap.size) #[.int .i64 k, .int .i64 n] 24) := Lib.hid (by have h := ((Blk.new w #[.int .i64 k, .int .i64 n] 24).keepn (g_alloc (g_refl (w.alloc (.cells #[.int .i64 k, .int .i64 n] 24)) none) (.cells #[.int .i64 l, .int .i64 m] 24))).keepn (g_alloc (g_refl ((w.alloc (.cells #[.int .i64 k, .int .i64 n] 24)).alloc (.cells #[.int .i64 l, .int .i64 m] 24)) none) (.cells #[.int .i64 0, .int .i64 0] 24)); simpa using h)
    have b1 : Hid (Blk (((w.alloc (.cells #[.int .i64 k, .int .i64 n] 24)).alloc (.cells #[.int .i64 l, .int .i64 m] 24)).alloc (.cells #[.int .i64 0, .int .i64 0] 24)) (w.heap.size + 1) #[.int .i64 l, .int .i64 m] 24) := Lib.hid (by have h := (Blk.new (w.alloc (.cells #[.int .i64 k, .int .i64 n] 24)) #[.int .i64 l, .int .i64 m] 24).keepn (g_alloc (g_refl ((w.alloc (.cells #[.int .i64 k, .int .i64 n] 24)).alloc (.cells #[.int .i64 l, .int .i64 m] 24)) none) (.cells #[.int .i64 0, .int .i64 0] 24)); simpa using h)
    have b2 : Hid (Blk (((w.alloc (.cells #[.int .i64 k, .int .i64 n] 24)).alloc (.cells #[.int .i64 l, .int .i64 m] 24)).alloc (.cells #[.int .i64 0, .int .i64 0] 24)) (w.heap.size + 1 + 1) #[.int .i64 0, .int .i64 0] 24) := Lib.hid (by have h := Blk.new ((w.alloc (.cells #[.int .i64 k, .int .i64 n] 24)).alloc (.cells #[.int .i64 l, .int .i64 m] 24)) #[.int .i64 0, .int .i64 0] 24; simpa using h)
    have bA := g_alloc (g_alloc (g_alloc (g_refl w none) (.cells #[.int .i64 k, .int .i64 n] 24)) (.cells #[.int .i64 l, .int .i64 m] 24)) (.cells #[.int .i64 0, .int .i64 0] 24)
    go_enter Try.func40, Try.ntmps40
    go_wp2_with fail
    refine (rone_any _ _).mono ?_
    rintro e w1 ⟨rfl, g1⟩
    have d2 := Lib.hid (b2.out.keepn g1)
    have d2_0 := d2.out.cell 0 (.int .i64 0) rfl
    have d2_1 := d2.out.cell 1 (.int .i64 0) rfl
    have df2_0 := d2.out.free 0
    have df2_1 := d2.out.free 1
    go_wp2_with fail
    have rr := ((d2.out.set 0 (.int .i64 1)).set 1 (.int .i64 (oneI false)))
    have r0 := rr.cell 0 (.int .i64 1) rfl
    have r1 := rr.cell 1 (.int .i64 (oneI false)) rfl
    exact bodyPost_ret (v := .agg #[.int .i64 1, .int .i64 (oneI false)]) (by simp [results, Try.results40, go_sem, r0, r1]) rfl ⟨rfl, g_in (g_trans bA g1) (g_set (g_set (g_refl w1 (some (w.heap.size + 1 + 1))) (p := ⟨w.heap.size + 1 + 1, 0, none⟩) (.inl rfl) _) (p := ⟨w.heap.size + 1 + 1, 1, none⟩) (.inl rfl) _) (by omega)⟩

set_option maxHeartbeats 1600000 in
theorem zero_any (k n : Int) (w : World) : Calls Try.prog 19 #[.agg #[.int .i64 k, .int .i64 n]] w fun e w' => e = .returned (.bool (zeroB k n)) ∧ w.grownBy w' none := by
  by_cases h1 : n = 0
  · by_cases h2 : k = 1
    · subst h1 h2
      rw [show zeroB 1 0 = true from rfl]
      go_enter Try.func19, Try.ntmps19
      go_wp2_with fail
      go_ret
      exact ⟨rfl, g_alloc (g_refl _ _) _⟩
    · have q2 : (k == 1) = false := by simp [h2]
      by_cases h3 : k = 2
      · subst h1 h3
        rw [show zeroB 2 0 = true from rfl]
        go_enter Try.func19, Try.ntmps19
        go_wp2_with fail
        go_ret
        exact ⟨rfl, g_alloc (g_refl _ _) _⟩
      · have q3 : (k == 2) = false := by simp [h3]
        subst h1
        rw [show zeroB k 0 = false from decide_eq_false (by omega)]
        go_enter Try.func19, Try.ntmps19
        go_wp2_with fail
        go_ret
        exact ⟨rfl, g_alloc (g_refl _ _) _⟩
  · have q1 : (n == 0) = false := by simp [h1]
    rw [show zeroB k n = false from decide_eq_false (by omega)]
    go_enter Try.func19, Try.ntmps19
    go_wp2_with fail
    go_ret
    exact ⟨rfl, g_alloc (g_refl _ _) _⟩

set_option maxHeartbeats 1600000 in
theorem rzero_any (k n : Int) (w : World) : Calls Try.prog 24 #[.agg #[.int .i64 k, .int .i64 n]] w fun e w' => e = .returned (.bool (zeroB k n)) ∧ w.grownBy w' none := by
  by_cases h1 : n = 0
  · by_cases h2 : k = 1
    · subst h1 h2
      rw [show zeroB 1 0 = true from rfl]
      have gA := g_alloc (g_refl w none) (.cells #[.int .i64 1, .int .i64 0] 24)
      have c0 := (Blk.new w #[.int .i64 1, .int .i64 0] 24).cell 0 (.int .i64 1) rfl
      have c1 := (Blk.new w #[.int .i64 1, .int .i64 0] 24).cell 1 (.int .i64 0) rfl
      go_enter Try.func24, Try.ntmps24
      go_wp2_with fail
      generalize (w.alloc (.cells #[.int .i64 1, .int .i64 0] 24)) = W at *
      have l0 := fun X : GW W => X.cell c0
      have l1 := fun X : GW W => X.cell c1
      refine wp_region_gw (by kernel_rfl) (by kernel_rfl) ?_
      repeat (go_big_quiet_step (first | (go_at_call 27; exact quiet_g (rnil_any _)) | (go_at_call 26; exact quiet_g (rnum_any _ _))))
      refine wpQuiet_nil ?_
      intro _ hw'
      obtain ⟨X9, hw''⟩ := hw'
      subst hw''
      have hg9 := X9.g
      clear l0 l1
      generalize X9.w = w9 at *
      go_wp2_with fail
      go_ret
      exact ⟨rfl, g_trans gA hg9⟩
    · have q2 : (k == 1) = false := by simp [h2]
      by_cases h3 : k = 2
      · subst h1 h3
        rw [show zeroB 2 0 = true from rfl]
        have gA := g_alloc (g_refl w none) (.cells #[.int .i64 2, .int .i64 0] 24)
        have c0 := (Blk.new w #[.int .i64 2, .int .i64 0] 24).cell 0 (.int .i64 2) rfl
        have c1 := (Blk.new w #[.int .i64 2, .int .i64 0] 24).cell 1 (.int .i64 0) rfl
        go_enter Try.func24, Try.ntmps24
        go_wp2_with fail
        generalize (w.alloc (.cells #[.int .i64 2, .int .i64 0] 24)) = W at *
        have l0 := fun X : GW W => X.cell c0
        have l1 := fun X : GW W => X.cell c1
        refine wp_region_gw (by kernel_rfl) (by kernel_rfl) ?_
        repeat (go_big_quiet_step (first | (go_at_call 27; exact quiet_g (rnil_any _)) | (go_at_call 26; exact quiet_g (rnum_any _ _))))
        refine wpQuiet_nil ?_
        intro _ hw'
        obtain ⟨X9, hw''⟩ := hw'
        subst hw''
        have hg9 := X9.g
        clear l0 l1
        generalize X9.w = w9 at *
        go_wp2_with fail
        go_ret
        exact ⟨rfl, g_trans gA hg9⟩
      · have q3 : (k == 2) = false := by simp [h3]
        subst h1
        rw [show zeroB k 0 = false from decide_eq_false (by omega)]
        have gA := g_alloc (g_refl w none) (.cells #[.int .i64 k, .int .i64 0] 24)
        have c0 := (Blk.new w #[.int .i64 k, .int .i64 0] 24).cell 0 (.int .i64 k) rfl
        have c1 := (Blk.new w #[.int .i64 k, .int .i64 0] 24).cell 1 (.int .i64 0) rfl
        go_enter Try.func24, Try.ntmps24
        go_wp2_with fail
        generalize (w.alloc (.cells #[.int .i64 k, .int .i64 0] 24)) = W at *
        have l0 := fun X : GW W => X.cell c0
        have l1 := fun X : GW W => X.cell c1
        refine wp_region_gw (by kernel_rfl) (by kernel_rfl) ?_
        repeat (go_big_quiet_step (first | (go_at_call 27; exact quiet_g (rnil_any _)) | (go_at_call 26; exact quiet_g (rnum_any _ _))))
        refine wpQuiet_nil ?_
        intro _ hw'
        obtain ⟨X9, hw''⟩ := hw'
        subst hw''
        have hg9 := X9.g
        clear l0 l1
        generalize X9.w = w9 at *
        go_wp2_with fail
        go_ret
        exact ⟨rfl, g_trans gA hg9⟩
  · have q1 : (n == 0) = false := by simp [h1]
    rw [show zeroB k n = false from decide_eq_false (by omega)]
    have gA := g_alloc (g_refl w none) (.cells #[.int .i64 k, .int .i64 n] 24)
    have c0 := (Blk.new w #[.int .i64 k, .int .i64 n] 24).cell 0 (.int .i64 k) rfl
    have c1 := (Blk.new w #[.int .i64 k, .int .i64 n] 24).cell 1 (.int .i64 n) rfl
    go_enter Try.func24, Try.ntmps24
    go_wp2_with fail
    generalize (w.alloc (.cells #[.int .i64 k, .int .i64 n] 24)) = W at *
    have l0 := fun X : GW W => X.cell c0
    have l1 := fun X : GW W => X.cell c1
    refine wp_region_gw (by kernel_rfl) (by kernel_rfl) ?_
    repeat (go_big_quiet_step (first | (go_at_call 27; exact quiet_g (rnil_any _)) | (go_at_call 26; exact quiet_g (rnum_any _ _))))
    refine wpQuiet_nil ?_
    intro _ hw'
    obtain ⟨X9, hw''⟩ := hw'
    subst hw''
    have hg9 := X9.g
    clear l0 l1
    generalize X9.w = w9 at *
    go_wp2_with fail
    go_ret
    exact ⟨rfl, g_trans gA hg9⟩

end Go.Proofs.Ytdfompfboopkpaa
