/- Programs: which instructions may be. -/
import Derived.Test.YtfobfcnbbafplaaE
import Derived.Test.YtfobfcnbbafplaaP0
namespace Go.Proofs.Ytfobfcnbbafplaa
open Go.RowKit
set_option linter.unusedVariables false
set_option linter.unusedSimpArgs false

def okZ (k A B C : Int) : Bool := decide (1 ≤ k ∧ k ≤ 20) && okI k.toNat A B C
theorem okZ_in {k : Int} {n : Nat} (hk : k = n) (h1 : 1 ≤ n) (h2 : n ≤ 20) (A B C : Int) : okZ k A B C = okI n A B C := by
  subst hk; unfold okZ
  rw [show decide (1 ≤ (n : Int) ∧ (n : Int) ≤ 20) = true from by simp; omega, Int.toNat_natCast]; rfl
theorem okZ_out {k : Int} (h : k < 1 ∨ 20 < k) (A B C : Int) : okZ k A B C = false := by
  unfold okZ
  rw [show decide (1 ≤ k ∧ k ≤ 20) = false from by simp; omega]; rfl

def okx (x : I4) : Bool := okZ x.k x.a x.b x.c
theorem okx_in {x : I4} (h : okx x = true) : ∃ n : Nat, x.k = n ∧ 1 ≤ n ∧ n ≤ 20 ∧ okI n x.a x.b x.c = true := by
  rcases kind_cases x.k with ⟨n, hn, h1, h2⟩ | hh
  · exact ⟨n, hn, h1, h2, by rw [← okZ_in hn h1 h2]; exact h⟩
  · unfold okx at h; rw [okZ_out hh] at h; cases h

theorem chk_x (x : I4) (w : World) : Calls Try.prog 41 #[.agg #[.int .i64 x.k, .int .i64 x.a, .int .i64 x.b, .int .i64 x.c]] w fun e w' => e = .returned (.int .i64 (if okx x then 0 else 100)) ∧ w.grownBy w' none := by
  unfold okx
  rcases kind_cases x.k with ⟨n, hn, h1, h2⟩ | h
  · rw [okZ_in hn h1 h2, hn]; exact check_ok n h1 h2 _ _ _ w
  · rw [okZ_out h]; exact check_bad _ h _ _ _ w
theorem is_x (x : I4) (w : World) : Calls Try.prog 29 #[.agg #[.int .i64 x.k, .int .i64 x.a, .int .i64 x.b, .int .i64 x.c]] w fun e w' => e = .returned (.bool (okx x)) ∧ w.grownBy w' none := by
  unfold okx
  rcases kind_cases x.k with ⟨n, hn, h1, h2⟩ | h
  · rw [okZ_in hn h1 h2, hn]; exact is_ok n h1 h2 _ _ _ w
  · rw [okZ_out h]; exact is_bad _ h _ _ _ w
end Go.Proofs.Ytfobfcnbbafplaa
