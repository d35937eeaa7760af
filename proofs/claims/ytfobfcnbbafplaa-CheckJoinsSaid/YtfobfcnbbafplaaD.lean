/- Which instructions may be. -/
import Derived.Test.YtfobfcnbbafplaaC
namespace Go.Proofs.Ytfobfcnbbafplaa
open Go.RowKit
set_option linter.unusedVariables false


/-- may an instruction of a kind be? -/
def okI (k : Nat) (A B C : Int) : Bool := decide (fitsP (sA k) A 0 (2 ^ (0 : Int).toNat)) && decide (fitsP (sB k) B 0 (2 ^ (0 : Int).toNat)) && decide (fitsP (sC k) C B (2 ^ B.toNat))

set_option maxHeartbeats 1600000 in
theorem check_ok (k : Nat) (h1 : 1 ≤ k) (h2 : k ≤ 20) (A B C : Int) (w : World) :
    Calls Try.prog 41 #[.agg #[.int .i64 k, .int .i64 A, .int .i64 B, .int .i64 C]] w fun e w' => e = .returned (.int .i64 (if okI k A B C then 0 else 100)) ∧ w.grownBy w' none := by
  unfold okI
  obtain ⟨s0l, s0h, s1l, s1h, s2l, s2h⟩ := sorts_lt k
  have hf := of_ok k h1 h2
  have F0 := Lib.hid (fun w => fits_any (sA k) A 0 w ⟨s0l, s0h⟩)
  have F1 := Lib.hid (fun w => fits_any (sB k) B 0 w ⟨s1l, s1h⟩)
  have F2 := Lib.hid (fun w => fits_any (sC k) C B w ⟨s2l, s2h⟩)
  generalize decide (fitsP (sA k) A 0 (2 ^ (0 : Int).toNat)) = r0 at *
  generalize decide (fitsP (sB k) B 0 (2 ^ (0 : Int).toNat)) = r1 at *
  generalize decide (fitsP (sC k) C B (2 ^ B.toNat)) = r2 at *
  generalize sA k = s0 at *
  generalize sB k = s1 at *
  generalize sC k = s2 at *
  generalize nmB k = nm at *
  have HF := Lib.hid hf
  clear hf s0l s0h s1l s1h s2l s2h
  have hb := Blk.new w #[.int .i64 k, .int .i64 A, .int .i64 B, .int .i64 C] 31
  have g0 := g_alloc (g_refl w none) (.cells #[.int .i64 k, .int .i64 A, .int .i64 B, .int .i64 C] 31)
  have HB := Lib.hid hb
  clear hb
  go_enter Try.func41, Try.ntmps41
  go_wp2_with fail
  refine (HF.out _).mono ?_
  rintro e w1 ⟨rfl, hg⟩
  have g1 := g_alloc (g_refl w1 none) (.cells #[.string nm, .int .i64 s0, .int .i64 s1, .int .i64 s2] 87)
  have R := Lib.hid ((HB.out.keepn hg).keepn g1)
  have gA := g_trans (g_trans g0 hg) g1
  have t1 := R.out.cell 1 (.int .i64 A) rfl
  have t2 := R.out.cell 2 (.int .i64 B) rfl
  have t3 := R.out.cell 3 (.int .i64 C) rfl
  have ob := Blk.new w1 #[.string nm, .int .i64 s0, .int .i64 s1, .int .i64 s2] 87
  go_wp2_with fail
  refine (F0.out _).mono ?_
  rintro e w2 ⟨rfl, hg2⟩
  have OB2 := Lib.hid (ob.keepn hg2)
  have R2 := Lib.hid (R.out.keepn hg2)
  clear ob t1 t2 t3
  cases r0 with
  | false =>
    go_wp2_with fail
    go_ret
    exact ⟨rfl, g_trans gA hg2⟩
  | true =>
    have t1 := R2.out.cell 1 (.int .i64 A) rfl
    have t2 := R2.out.cell 2 (.int .i64 B) rfl
    have t3 := R2.out.cell 3 (.int .i64 C) rfl
    have u1 := OB2.out.cell 1 (.int .i64 s0) rfl
    have u2 := OB2.out.cell 2 (.int .i64 s1) rfl
    have u3 := OB2.out.cell 3 (.int .i64 s2) rfl
    go_wp2_with fail
    refine (F1.out _).mono ?_
    rintro e w3 ⟨rfl, hg3⟩
    clear t1 t2 t3 u1 u2 u3
    cases r1 with
    | false =>
      go_wp2_with fail
      go_ret
      exact ⟨rfl, g_trans (g_trans gA hg2) hg3⟩
    | true =>
      have t2 := (R2.out.keepn hg3).cell 2 (.int .i64 B) rfl
      have t3 := (R2.out.keepn hg3).cell 3 (.int .i64 C) rfl
      have u3 := (OB2.out.keepn hg3).cell 3 (.int .i64 s2) rfl
      go_wp2_with fail
      refine (F2.out _).mono ?_
      rintro e w4 ⟨rfl, hg4⟩
      cases r2 with
      | false =>
        go_wp2_with fail
        go_ret
        exact ⟨rfl, g_trans (g_trans (g_trans gA hg2) hg3) hg4⟩
      | true =>
        go_wp2_with fail
        go_ret
        exact ⟨rfl, g_trans (g_trans (g_trans gA hg2) hg3) hg4⟩

set_option maxHeartbeats 800000 in
theorem check_bad (k : Int) (h : k < 1 ∨ 20 < k) (A B C : Int) (w : World) :
    Calls Try.prog 41 #[.agg #[.int .i64 k, .int .i64 A, .int .i64 B, .int .i64 C]] w fun e w' => e = .returned (.int .i64 100) ∧ w.grownBy w' none := by
  have g0 := g_alloc (g_refl w none) (.cells #[.int .i64 k, .int .i64 A, .int .i64 B, .int .i64 C] 31)
  have HF := Lib.hid (of_bad k h)
  clear h
  go_enter Try.func41, Try.ntmps41
  go_wp2_with fail
  refine (HF.out _).mono ?_
  rintro e w1 ⟨rfl, hg⟩
  go_wp2_with fail
  go_ret
  exact ⟨rfl, g_alloc (g_trans g0 hg) _⟩

set_option maxHeartbeats 1600000 in
theorem is_ok (k : Nat) (h1 : 1 ≤ k) (h2 : k ≤ 20) (A B C : Int) (w : World) :
    Calls Try.prog 29 #[.agg #[.int .i64 k, .int .i64 A, .int .i64 B, .int .i64 C]] w fun e w' => e = .returned (.bool (okI k A B C)) ∧ w.grownBy w' none := by
  unfold okI
  obtain ⟨s0l, s0h, s1l, s1h, s2l, s2h⟩ := sorts_lt k
  have hf := has_ok k h1 h2
  have F0 := Lib.hid (fun w => rfits_any (sA k) A 0 w ⟨s0l, s0h⟩)
  have F1 := Lib.hid (fun w => rfits_any (sB k) B 0 w ⟨s1l, s1h⟩)
  have F2 := Lib.hid (fun w => rfits_any (sC k) C B w ⟨s2l, s2h⟩)
  generalize decide (fitsP (sA k) A 0 (2 ^ (0 : Int).toNat)) = r0 at *
  generalize decide (fitsP (sB k) B 0 (2 ^ (0 : Int).toNat)) = r1 at *
  generalize decide (fitsP (sC k) C B (2 ^ B.toNat)) = r2 at *
  generalize sA k = s0 at *
  generalize sB k = s1 at *
  generalize sC k = s2 at *
  generalize nmB k = nm at *
  have HF := Lib.hid hf
  clear hf s0l s0h s1l s1h s2l s2h
  have hb := Blk.new w #[.int .i64 k, .int .i64 A, .int .i64 B, .int .i64 C] 31
  have g0 := g_alloc (g_refl w none) (.cells #[.int .i64 k, .int .i64 A, .int .i64 B, .int .i64 C] 31)
  have HB := Lib.hid hb
  clear hb
  go_enter Try.func29, Try.ntmps29
  go_wp2_with fail
  refine (HF.out _).mono ?_
  rintro e w1 ⟨rfl, hg⟩
  have g1 := g_alloc (g_refl w1 none) (.cells #[.int .i64 s0, .int .i64 s1, .int .i64 s2] 68)
  have R := Lib.hid ((HB.out.keepn hg).keepn g1)
  have gA := g_trans (g_trans g0 hg) g1
  have t1 := R.out.cell 1 (.int .i64 A) rfl
  have t2 := R.out.cell 2 (.int .i64 B) rfl
  have t3 := R.out.cell 3 (.int .i64 C) rfl
  have ob := Blk.new w1 #[.int .i64 s0, .int .i64 s1, .int .i64 s2] 68
  go_wp2_with fail
  refine (F0.out _).mono ?_
  rintro e w2 ⟨rfl, hg2⟩
  have OB2 := Lib.hid (ob.keepn hg2)
  have R2 := Lib.hid (R.out.keepn hg2)
  clear ob t1 t2 t3
  cases r0 with
  | false =>
    go_wp2_with fail
    go_ret
    exact ⟨rfl, g_trans gA hg2⟩
  | true =>
    have t1 := R2.out.cell 1 (.int .i64 A) rfl
    have t2 := R2.out.cell 2 (.int .i64 B) rfl
    have t3 := R2.out.cell 3 (.int .i64 C) rfl
    have u1 := OB2.out.cell 0 (.int .i64 s0) rfl
    have u2 := OB2.out.cell 1 (.int .i64 s1) rfl
    have u3 := OB2.out.cell 2 (.int .i64 s2) rfl
    go_wp2_with fail
    refine (F1.out _).mono ?_
    rintro e w3 ⟨rfl, hg3⟩
    clear t1 t2 t3 u1 u2 u3
    cases r1 with
    | false =>
      go_wp2_with fail
      go_ret
      exact ⟨rfl, g_trans (g_trans gA hg2) hg3⟩
    | true =>
      have t2 := (R2.out.keepn hg3).cell 2 (.int .i64 B) rfl
      have t3 := (R2.out.keepn hg3).cell 3 (.int .i64 C) rfl
      have u3 := (OB2.out.keepn hg3).cell 2 (.int .i64 s2) rfl
      go_wp2_with fail
      refine (F2.out _).mono ?_
      rintro e w4 ⟨rfl, hg4⟩
      cases r2 with
      | false =>
        go_wp2_with fail
        go_ret
        exact ⟨rfl, g_trans (g_trans (g_trans gA hg2) hg3) hg4⟩
      | true =>
        go_wp2_with fail
        go_ret
        exact ⟨rfl, g_trans (g_trans (g_trans gA hg2) hg3) hg4⟩

set_option maxHeartbeats 800000 in
theorem is_bad (k : Int) (h : k < 1 ∨ 20 < k) (A B C : Int) (w : World) :
    Calls Try.prog 29 #[.agg #[.int .i64 k, .int .i64 A, .int .i64 B, .int .i64 C]] w fun e w' => e = .returned (.bool false) ∧ w.grownBy w' none := by
  have g0 := g_alloc (g_refl w none) (.cells #[.int .i64 k, .int .i64 A, .int .i64 B, .int .i64 C] 31)
  have HF := Lib.hid (has_bad k h)
  clear h
  go_enter Try.func29, Try.ntmps29
  go_wp2_with fail
  refine (HF.out _).mono ?_
  rintro e w1 ⟨rfl, hg⟩
  go_wp2_with fail
  go_ret
  exact ⟨rfl, g_alloc (g_trans g0 hg) _⟩

end Go.Proofs.Ytfobfcnbbafplaa

