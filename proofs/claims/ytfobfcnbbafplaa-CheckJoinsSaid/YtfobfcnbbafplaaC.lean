/- What fits. -/
import Derived.Test.YtfobfcnbbafplaaB
namespace Go.Proofs.Ytfobfcnbbafplaa
open Go.RowKit
set_option linter.unusedVariables false


/-- what is of a sort: p: two to the power of a mask's size -/
def fitsP (s n f p : Int) : Prop := (s = 0 → n = 0) ∧ (s = 1 → 0 ≤ n ∧ n ≤ 7) ∧ (s = 2 → -1099511627776 ≤ n ∧ n ≤ 1099511627776) ∧ (s = 3 → 0 ≤ n ∧ n ≤ 512) ∧ (s = 4 → 0 ≤ n ∧ n ≤ 15) ∧ (s = 5 → 1 ≤ n ∧ n ≤ 16) ∧ (s = 6 → 1 ≤ f ∧ f ≤ 16 ∧ 0 ≤ n ∧ n < p)
instance (s n f p : Int) : Decidable (fitsP s n f p) := by unfold fitsP; infer_instance
theorem pow_le {f : Int} (h1 : 1 ≤ f) (h2 : f ≤ 16) : 2 ≤ (2 : Int) ^ f.toNat ∧ (2 : Int) ^ f.toNat ≤ 65536 := by
  obtain ⟨k, rfl⟩ : ∃ k : Nat, f = k := ⟨f.toNat, by omega⟩
  rw [Int.toNat_natCast]
  have : k = 1 ∨ k = 2 ∨ k = 3 ∨ k = 4 ∨ k = 5 ∨ k = 6 ∨ k = 7 ∨ k = 8 ∨ k = 9 ∨ k = 10 ∨ k = 11 ∨ k = 12 ∨ k = 13 ∨ k = 14 ∨ k = 15 ∨ k = 16 := by omega
  rcases this with rfl | rfl | rfl | rfl | rfl | rfl | rfl | rfl | rfl | rfl | rfl | rfl | rfl | rfl | rfl | rfl <;> decide

set_option maxHeartbeats 1600000 in
theorem fits_any (s n f : Int) (w : World) (hs : 0 ≤ s ∧ s ≤ 6) :
    Calls Try.prog 47 #[.int .i64 s, .int .i64 n, .int .i64 f] w fun e w' => e = .returned (.bool (decide (fitsP s n f (2 ^ f.toNat)))) ∧ w.grownBy w' none := by
  obtain ⟨r, hr⟩ : ∃ r, decide (fitsP s n f (2 ^ f.toNat)) = r := ⟨_, rfl⟩
  rw [hr]
  have HR := Lib.hid hr
  clear hr
  have hcs : s = 0 ∨ s = 1 ∨ s = 2 ∨ s = 3 ∨ s = 4 ∨ s = 5 ∨ s = 6 := by omega
  clear hs
  rcases hcs with rfl | rfl | rfl | rfl | rfl | rfl | rfl
  · by_cases c1 : n = 0
    · subst c1
      have hv : r = true := HR.out.symm.trans (decide_eq_true (by unfold fitsP; omega))
      subst hv
      clear HR
      go_enter Try.func47, Try.ntmps47
      go_wp2
      go_ret
      exact ⟨by first | rfl | exact ret_bool (decide_eq_true (by omega)) | exact ret_bool (decide_eq_false (by omega)) | exact ret_bool (by simp <;> omega), g_refl _ _⟩
    · have c2 : (n == 0) = false := by simp [c1]
      have hv : r = false := HR.out.symm.trans (decide_eq_false (by unfold fitsP; omega))
      subst hv
      clear HR
      go_enter Try.func47, Try.ntmps47
      go_wp2
      go_ret
      exact ⟨by first | rfl | exact ret_bool (decide_eq_true (by omega)) | exact ret_bool (decide_eq_false (by omega)) | exact ret_bool (by simp <;> omega), g_refl _ _⟩
  · by_cases c1 : n < 0
    · have hv : r = false := HR.out.symm.trans (decide_eq_false (by unfold fitsP; omega))
      subst hv
      clear HR
      go_enter Try.func47, Try.ntmps47
      go_wp2
      go_ret
      exact ⟨by first | rfl | exact ret_bool (decide_eq_true (by omega)) | exact ret_bool (decide_eq_false (by omega)) | exact ret_bool (by simp <;> omega), g_refl _ _⟩
    by_cases c2 : 7 < n
    · have hv : r = false := HR.out.symm.trans (decide_eq_false (by unfold fitsP; omega))
      subst hv
      clear HR
      go_enter Try.func47, Try.ntmps47
      go_wp2
      go_ret
      exact ⟨by first | rfl | exact ret_bool (decide_eq_true (by omega)) | exact ret_bool (decide_eq_false (by omega)) | exact ret_bool (by simp <;> omega), g_refl _ _⟩
    · have hv : r = true := HR.out.symm.trans (decide_eq_true (by unfold fitsP; omega))
      subst hv
      clear HR
      go_enter Try.func47, Try.ntmps47
      go_wp2
      go_ret
      exact ⟨by first | rfl | exact ret_bool (decide_eq_true (by omega)) | exact ret_bool (decide_eq_false (by omega)) | exact ret_bool (by simp <;> omega), g_refl _ _⟩
  · by_cases c1 : n < -1099511627776
    · have hv : r = false := HR.out.symm.trans (decide_eq_false (by unfold fitsP; omega))
      subst hv
      clear HR
      go_enter Try.func47, Try.ntmps47
      go_wp2
      go_ret
      exact ⟨by first | rfl | exact ret_bool (decide_eq_true (by omega)) | exact ret_bool (decide_eq_false (by omega)) | exact ret_bool (by simp <;> omega), g_refl _ _⟩
    by_cases c2 : 1099511627776 < n
    · have hv : r = false := HR.out.symm.trans (decide_eq_false (by unfold fitsP; omega))
      subst hv
      clear HR
      go_enter Try.func47, Try.ntmps47
      go_wp2
      go_ret
      exact ⟨by first | rfl | exact ret_bool (decide_eq_true (by omega)) | exact ret_bool (decide_eq_false (by omega)) | exact ret_bool (by simp <;> omega), g_refl _ _⟩
    · have hv : r = true := HR.out.symm.trans (decide_eq_true (by unfold fitsP; omega))
      subst hv
      clear HR
      go_enter Try.func47, Try.ntmps47
      go_wp2
      go_ret
      exact ⟨by first | rfl | exact ret_bool (decide_eq_true (by omega)) | exact ret_bool (decide_eq_false (by omega)) | exact ret_bool (by simp <;> omega), g_refl _ _⟩
  · by_cases c1 : n < 0
    · have hv : r = false := HR.out.symm.trans (decide_eq_false (by unfold fitsP; omega))
      subst hv
      clear HR
      go_enter Try.func47, Try.ntmps47
      go_wp2
      go_ret
      exact ⟨by first | rfl | exact ret_bool (decide_eq_true (by omega)) | exact ret_bool (decide_eq_false (by omega)) | exact ret_bool (by simp <;> omega), g_refl _ _⟩
    by_cases c2 : 512 < n
    · have hv : r = false := HR.out.symm.trans (decide_eq_false (by unfold fitsP; omega))
      subst hv
      clear HR
      go_enter Try.func47, Try.ntmps47
      go_wp2
      go_ret
      exact ⟨by first | rfl | exact ret_bool (decide_eq_true (by omega)) | exact ret_bool (decide_eq_false (by omega)) | exact ret_bool (by simp <;> omega), g_refl _ _⟩
    · have hv : r = true := HR.out.symm.trans (decide_eq_true (by unfold fitsP; omega))
      subst hv
      clear HR
      go_enter Try.func47, Try.ntmps47
      go_wp2
      go_ret
      exact ⟨by first | rfl | exact ret_bool (decide_eq_true (by omega)) | exact ret_bool (decide_eq_false (by omega)) | exact ret_bool (by simp <;> omega), g_refl _ _⟩
  · by_cases c1 : n < 0
    · have hv : r = false := HR.out.symm.trans (decide_eq_false (by unfold fitsP; omega))
      subst hv
      clear HR
      go_enter Try.func47, Try.ntmps47
      go_wp2
      go_ret
      exact ⟨by first | rfl | exact ret_bool (decide_eq_true (by omega)) | exact ret_bool (decide_eq_false (by omega)) | exact ret_bool (by simp <;> omega), g_refl _ _⟩
    by_cases c2 : 15 < n
    · have hv : r = false := HR.out.symm.trans (decide_eq_false (by unfold fitsP; omega))
      subst hv
      clear HR
      go_enter Try.func47, Try.ntmps47
      go_wp2
      go_ret
      exact ⟨by first | rfl | exact ret_bool (decide_eq_true (by omega)) | exact ret_bool (decide_eq_false (by omega)) | exact ret_bool (by simp <;> omega), g_refl _ _⟩
    · have hv : r = true := HR.out.symm.trans (decide_eq_true (by unfold fitsP; omega))
      subst hv
      clear HR
      go_enter Try.func47, Try.ntmps47
      go_wp2
      go_ret
      exact ⟨by first | rfl | exact ret_bool (decide_eq_true (by omega)) | exact ret_bool (decide_eq_false (by omega)) | exact ret_bool (by simp <;> omega), g_refl _ _⟩
  · by_cases c1 : n < 1
    · have hv : r = false := HR.out.symm.trans (decide_eq_false (by unfold fitsP; omega))
      subst hv
      clear HR
      go_enter Try.func47, Try.ntmps47
      go_wp2
      go_ret
      exact ⟨by first | rfl | exact ret_bool (decide_eq_true (by omega)) | exact ret_bool (decide_eq_false (by omega)) | exact ret_bool (by simp <;> omega), g_refl _ _⟩
    by_cases c2 : 16 < n
    · have hv : r = false := HR.out.symm.trans (decide_eq_false (by unfold fitsP; omega))
      subst hv
      clear HR
      go_enter Try.func47, Try.ntmps47
      go_wp2
      go_ret
      exact ⟨by first | rfl | exact ret_bool (decide_eq_true (by omega)) | exact ret_bool (decide_eq_false (by omega)) | exact ret_bool (by simp <;> omega), g_refl _ _⟩
    · have hv : r = true := HR.out.symm.trans (decide_eq_true (by unfold fitsP; omega))
      subst hv
      clear HR
      go_enter Try.func47, Try.ntmps47
      go_wp2
      go_ret
      exact ⟨by first | rfl | exact ret_bool (decide_eq_true (by omega)) | exact ret_bool (decide_eq_false (by omega)) | exact ret_bool (by simp <;> omega), g_refl _ _⟩
  · by_cases c1 : f < 1
    · have hv : r = false := HR.out.symm.trans (decide_eq_false (by unfold fitsP; omega))
      subst hv
      clear HR
      go_enter Try.func47, Try.ntmps47
      go_wp2
      go_ret
      exact ⟨by first | rfl | exact ret_bool (decide_eq_true (by omega)) | exact ret_bool (decide_eq_false (by omega)) | exact ret_bool (by simp <;> omega), g_refl _ _⟩
    by_cases c2 : 16 < f
    · have hv : r = false := HR.out.symm.trans (decide_eq_false (by unfold fitsP; omega))
      subst hv
      clear HR
      go_enter Try.func47, Try.ntmps47
      go_wp2
      go_ret
      exact ⟨by first | rfl | exact ret_bool (decide_eq_true (by omega)) | exact ret_bool (decide_eq_false (by omega)) | exact ret_bool (by simp <;> omega), g_refl _ _⟩
    obtain ⟨hp1, hp2⟩ := pow_le (f := f) (by omega) (by omega)
    obtain ⟨p, hp⟩ : ∃ p, (2 : Int) ^ f.toNat = p := ⟨_, rfl⟩
    rw [hp] at hp1 hp2 HR
    have hw1 : wrap64 p = p := by unfold wrap64; omega
    have hw2 : wrap64 (p - 1) = p - 1 := by unfold wrap64; omega
    by_cases c3 : n < 0
    · have hv : r = false := HR.out.symm.trans (decide_eq_false (by unfold fitsP; omega))
      subst hv
      clear HR
      go_enter Try.func47, Try.ntmps47
      go_wp2
      go_ret
      exact ⟨by first | rfl | exact ret_bool (decide_eq_true (by omega)) | exact ret_bool (decide_eq_false (by omega)) | exact ret_bool (by simp <;> omega), g_refl _ _⟩
    by_cases c4 : n < p
    · have hv : r = true := HR.out.symm.trans (decide_eq_true (by unfold fitsP; omega))
      subst hv
      clear HR
      go_enter Try.func47, Try.ntmps47
      go_wp2
      go_ret
      exact ⟨by first | rfl | exact ret_bool (decide_eq_true (by omega)) | exact ret_bool (decide_eq_false (by omega)) | exact ret_bool (by simp <;> omega), g_refl _ _⟩
    · have hv : r = false := HR.out.symm.trans (decide_eq_false (by unfold fitsP; omega))
      subst hv
      clear HR
      go_enter Try.func47, Try.ntmps47
      go_wp2
      go_ret
      exact ⟨by first | rfl | exact ret_bool (decide_eq_true (by omega)) | exact ret_bool (decide_eq_false (by omega)) | exact ret_bool (by simp <;> omega), g_refl _ _⟩

set_option maxHeartbeats 1600000 in
theorem rfits_any (s n f : Int) (w : World) (hs : 0 ≤ s ∧ s ≤ 6) :
    Calls Try.prog 39 #[.int .i64 s, .int .i64 n, .int .i64 f] w fun e w' => e = .returned (.bool (decide (fitsP s n f (2 ^ f.toNat)))) ∧ w.grownBy w' none := by
  obtain ⟨r, hr⟩ : ∃ r, decide (fitsP s n f (2 ^ f.toNat)) = r := ⟨_, rfl⟩
  rw [hr]
  have HR := Lib.hid hr
  clear hr
  have hcs : s = 0 ∨ s = 1 ∨ s = 2 ∨ s = 3 ∨ s = 4 ∨ s = 5 ∨ s = 6 := by omega
  clear hs
  rcases hcs with rfl | rfl | rfl | rfl | rfl | rfl | rfl
  · by_cases c1 : n = 0
    · subst c1
      have hv : r = true := HR.out.symm.trans (decide_eq_true (by unfold fitsP; omega))
      subst hv
      clear HR
      go_enter Try.func39, Try.ntmps39
      go_wp2
      go_ret
      exact ⟨by first | rfl | exact ret_bool (decide_eq_true (by omega)) | exact ret_bool (decide_eq_false (by omega)) | exact ret_bool (by simp <;> omega), g_refl _ _⟩
    · have c2 : (n == 0) = false := by simp [c1]
      have hv : r = false := HR.out.symm.trans (decide_eq_false (by unfold fitsP; omega))
      subst hv
      clear HR
      go_enter Try.func39, Try.ntmps39
      go_wp2
      go_ret
      exact ⟨by first | rfl | exact ret_bool (decide_eq_true (by omega)) | exact ret_bool (decide_eq_false (by omega)) | exact ret_bool (by simp <;> omega), g_refl _ _⟩
  · by_cases c1 : n < 0
    · have hv : r = false := HR.out.symm.trans (decide_eq_false (by unfold fitsP; omega))
      subst hv
      clear HR
      go_enter Try.func39, Try.ntmps39
      go_wp2
      go_ret
      exact ⟨by first | rfl | exact ret_bool (decide_eq_true (by omega)) | exact ret_bool (decide_eq_false (by omega)) | exact ret_bool (by simp <;> omega), g_refl _ _⟩
    by_cases c2 : 7 < n
    · have hv : r = false := HR.out.symm.trans (decide_eq_false (by unfold fitsP; omega))
      subst hv
      clear HR
      go_enter Try.func39, Try.ntmps39
      go_wp2
      go_ret
      exact ⟨by first | rfl | exact ret_bool (decide_eq_true (by omega)) | exact ret_bool (decide_eq_false (by omega)) | exact ret_bool (by simp <;> omega), g_refl _ _⟩
    · have hv : r = true := HR.out.symm.trans (decide_eq_true (by unfold fitsP; omega))
      subst hv
      clear HR
      go_enter Try.func39, Try.ntmps39
      go_wp2
      go_ret
      exact ⟨by first | rfl | exact ret_bool (decide_eq_true (by omega)) | exact ret_bool (decide_eq_false (by omega)) | exact ret_bool (by simp <;> omega), g_refl _ _⟩
  · by_cases c1 : n < -1099511627776
    · have hv : r = false := HR.out.symm.trans (decide_eq_false (by unfold fitsP; omega))
      subst hv
      clear HR
      go_enter Try.func39, Try.ntmps39
      go_wp2
      go_ret
      exact ⟨by first | rfl | exact ret_bool (decide_eq_true (by omega)) | exact ret_bool (decide_eq_false (by omega)) | exact ret_bool (by simp <;> omega), g_refl _ _⟩
    by_cases c2 : 1099511627776 < n
    · have hv : r = false := HR.out.symm.trans (decide_eq_false (by unfold fitsP; omega))
      subst hv
      clear HR
      go_enter Try.func39, Try.ntmps39
      go_wp2
      go_ret
      exact ⟨by first | rfl | exact ret_bool (decide_eq_true (by omega)) | exact ret_bool (decide_eq_false (by omega)) | exact ret_bool (by simp <;> omega), g_refl _ _⟩
    · have hv : r = true := HR.out.symm.trans (decide_eq_true (by unfold fitsP; omega))
      subst hv
      clear HR
      go_enter Try.func39, Try.ntmps39
      go_wp2
      go_ret
      exact ⟨by first | rfl | exact ret_bool (decide_eq_true (by omega)) | exact ret_bool (decide_eq_false (by omega)) | exact ret_bool (by simp <;> omega), g_refl _ _⟩
  · by_cases c1 : n < 0
    · have hv : r = false := HR.out.symm.trans (decide_eq_false (by unfold fitsP; omega))
      subst hv
      clear HR
      go_enter Try.func39, Try.ntmps39
      go_wp2
      go_ret
      exact ⟨by first | rfl | exact ret_bool (decide_eq_true (by omega)) | exact ret_bool (decide_eq_false (by omega)) | exact ret_bool (by simp <;> omega), g_refl _ _⟩
    by_cases c2 : 512 < n
    · have hv : r = false := HR.out.symm.trans (decide_eq_false (by unfold fitsP; omega))
      subst hv
      clear HR
      go_enter Try.func39, Try.ntmps39
      go_wp2
      go_ret
      exact ⟨by first | rfl | exact ret_bool (decide_eq_true (by omega)) | exact ret_bool (decide_eq_false (by omega)) | exact ret_bool (by simp <;> omega), g_refl _ _⟩
    · have hv : r = true := HR.out.symm.trans (decide_eq_true (by unfold fitsP; omega))
      subst hv
      clear HR
      go_enter Try.func39, Try.ntmps39
      go_wp2
      go_ret
      exact ⟨by first | rfl | exact ret_bool (decide_eq_true (by omega)) | exact ret_bool (decide_eq_false (by omega)) | exact ret_bool (by simp <;> omega), g_refl _ _⟩
  · by_cases c1 : n < 0
    · have hv : r = false := HR.out.symm.trans (decide_eq_false (by unfold fitsP; omega))
      subst hv
      clear HR
      go_enter Try.func39, Try.ntmps39
      go_wp2
      go_ret
      exact ⟨by first | rfl | exact ret_bool (decide_eq_true (by omega)) | exact ret_bool (decide_eq_false (by omega)) | exact ret_bool (by simp <;> omega), g_refl _ _⟩
    by_cases c2 : 15 < n
    · have hv : r = false := HR.out.symm.trans (decide_eq_false (by unfold fitsP; omega))
      subst hv
      clear HR
      go_enter Try.func39, Try.ntmps39
      go_wp2
      go_ret
      exact ⟨by first | rfl | exact ret_bool (decide_eq_true (by omega)) | exact ret_bool (decide_eq_false (by omega)) | exact ret_bool (by simp <;> omega), g_refl _ _⟩
    · have hv : r = true := HR.out.symm.trans (decide_eq_true (by unfold fitsP; omega))
      subst hv
      clear HR
      go_enter Try.func39, Try.ntmps39
      go_wp2
      go_ret
      exact ⟨by first | rfl | exact ret_bool (decide_eq_true (by omega)) | exact ret_bool (decide_eq_false (by omega)) | exact ret_bool (by simp <;> omega), g_refl _ _⟩
  · by_cases c1 : n < 1
    · have hv : r = false := HR.out.symm.trans (decide_eq_false (by unfold fitsP; omega))
      subst hv
      clear HR
      go_enter Try.func39, Try.ntmps39
      go_wp2
      go_ret
      exact ⟨by first | rfl | exact ret_bool (decide_eq_true (by omega)) | exact ret_bool (decide_eq_false (by omega)) | exact ret_bool (by simp <;> omega), g_refl _ _⟩
    by_cases c2 : 16 < n
    · have hv : r = false := HR.out.symm.trans (decide_eq_false (by unfold fitsP; omega))
      subst hv
      clear HR
      go_enter Try.func39, Try.ntmps39
      go_wp2
      go_ret
      exact ⟨by first | rfl | exact ret_bool (decide_eq_true (by omega)) | exact ret_bool (decide_eq_false (by omega)) | exact ret_bool (by simp <;> omega), g_refl _ _⟩
    · have hv : r = true := HR.out.symm.trans (decide_eq_true (by unfold fitsP; omega))
      subst hv
      clear HR
      go_enter Try.func39, Try.ntmps39
      go_wp2
      go_ret
      exact ⟨by first | rfl | exact ret_bool (decide_eq_true (by omega)) | exact ret_bool (decide_eq_false (by omega)) | exact ret_bool (by simp <;> omega), g_refl _ _⟩
  · by_cases c1 : f < 1
    · have hv : r = false := HR.out.symm.trans (decide_eq_false (by unfold fitsP; omega))
      subst hv
      clear HR
      go_enter Try.func39, Try.ntmps39
      go_wp2
      go_ret
      exact ⟨by first | rfl | exact ret_bool (decide_eq_true (by omega)) | exact ret_bool (decide_eq_false (by omega)) | exact ret_bool (by simp <;> omega), g_refl _ _⟩
    by_cases c2 : 16 < f
    · have hv : r = false := HR.out.symm.trans (decide_eq_false (by unfold fitsP; omega))
      subst hv
      clear HR
      go_enter Try.func39, Try.ntmps39
      go_wp2
      go_ret
      exact ⟨by first | rfl | exact ret_bool (decide_eq_true (by omega)) | exact ret_bool (decide_eq_false (by omega)) | exact ret_bool (by simp <;> omega), g_refl _ _⟩
    obtain ⟨hp1, hp2⟩ := pow_le (f := f) (by omega) (by omega)
    obtain ⟨p, hp⟩ : ∃ p, (2 : Int) ^ f.toNat = p := ⟨_, rfl⟩
    rw [hp] at hp1 hp2 HR
    have hw1 : wrap64 p = p := by unfold wrap64; omega
    have hw2 : wrap64 (p - 1) = p - 1 := by unfold wrap64; omega
    by_cases c3 : n < 0
    · have hv : r = false := HR.out.symm.trans (decide_eq_false (by unfold fitsP; omega))
      subst hv
      clear HR
      go_enter Try.func39, Try.ntmps39
      go_wp2
      go_ret
      exact ⟨by first | rfl | exact ret_bool (decide_eq_true (by omega)) | exact ret_bool (decide_eq_false (by omega)) | exact ret_bool (by simp <;> omega), g_refl _ _⟩
    by_cases c4 : n < p
    · have hv : r = true := HR.out.symm.trans (decide_eq_true (by unfold fitsP; omega))
      subst hv
      clear HR
      go_enter Try.func39, Try.ntmps39
      go_wp2
      go_ret
      exact ⟨by first | rfl | exact ret_bool (decide_eq_true (by omega)) | exact ret_bool (decide_eq_false (by omega)) | exact ret_bool (by simp <;> omega), g_refl _ _⟩
    · have hv : r = false := HR.out.symm.trans (decide_eq_false (by unfold fitsP; omega))
      subst hv
      clear HR
      go_enter Try.func39, Try.ntmps39
      go_wp2
      go_ret
      exact ⟨by first | rfl | exact ret_bool (decide_eq_true (by omega)) | exact ret_bool (decide_eq_false (by omega)) | exact ret_bool (by simp <;> omega), g_refl _ _⟩

set_option maxHeartbeats 3200000 in
theorem has_ok (k : Nat) (h1 : 1 ≤ k) (h2 : k ≤ 20) (w : World) : Calls Try.prog 38 #[.int .i64 k] w fun e w' => e = .returned (.tuple #[.agg #[.int .i64 (sA k), .int .i64 (sB k), .int .i64 (sC k)], .bool true]) ∧ w.grownBy w' none := by
  rcases kinds h1 h2 with rfl | rfl | rfl | rfl | rfl | rfl | rfl | rfl | rfl | rfl | rfl | rfl | rfl | rfl | rfl | rfl | rfl | rfl | rfl | rfl
  all_goals
    clear h1 h2
    go_enter Try.func38, Try.ntmps38
    go_wp2_with fail
    exact bodyPost_ret (by simp [results, Try.results38, go_sem] <;> decide) rfl ⟨rfl, g_alloc (g_refl _ _) _⟩

set_option maxHeartbeats 3200000 in
theorem has_bad (k : Int) (h : k < 1 ∨ 20 < k) (w : World) : Calls Try.prog 38 #[.int .i64 k] w fun e w' => e = .returned (.tuple #[.agg #[.int .i64 0, .int .i64 0, .int .i64 0], .bool false]) ∧ w.grownBy w' none := by
  have q1 : (k == 1) = false := by simp; omega
  have q2 : (k == 2) = false := by simp; omega
  have q3 : (k == 3) = false := by simp; omega
  have q4 : (k == 4) = false := by simp; omega
  have q5 : (k == 5) = false := by simp; omega
  have q6 : (k == 6) = false := by simp; omega
  have q7 : (k == 7) = false := by simp; omega
  have q8 : (k == 8) = false := by simp; omega
  have q9 : (k == 9) = false := by simp; omega
  have q10 : (k == 10) = false := by simp; omega
  have q11 : (k == 11) = false := by simp; omega
  have q12 : (k == 12) = false := by simp; omega
  have q13 : (k == 13) = false := by simp; omega
  have q14 : (k == 14) = false := by simp; omega
  have q15 : (k == 15) = false := by simp; omega
  have q16 : (k == 16) = false := by simp; omega
  have q17 : (k == 17) = false := by simp; omega
  have q18 : (k == 18) = false := by simp; omega
  have q19 : (k == 19) = false := by simp; omega
  have q20 : (k == 20) = false := by simp; omega
  clear h
  go_enter Try.func38, Try.ntmps38
  go_wp2_with fail
  exact bodyPost_ret (v := .tuple #[.agg #[.int .i64 0, .int .i64 0, .int .i64 0], .bool false]) (by simp [results, Try.results38, go_sem]) rfl ⟨rfl, g_alloc (g_refl _ _) _⟩

end Go.Proofs.Ytfobfcnbbafplaa

