/- Which programs may be: the document's Check; CheckForms. -/
import Derived.Test.YtfobfcnbbafplaaRW
import Derived.Test.YtfobfcnbbafplaaAW
namespace Go.Proofs.Ytfobfcnbbafplaa
open Go.RowKit
set_option linter.unusedVariables false
set_option linter.unusedSimpArgs false

theorem begin_cases (x : I4) : (¬ x.k = 15 ∧ x ≠ ⟨15, 0, 0, 0⟩) ∨ (x.k = 15 ∧ ¬ x.a = 0 ∧ x ≠ ⟨15, 0, 0, 0⟩) ∨ (x.k = 15 ∧ x.a = 0 ∧ ¬ x.b = 0 ∧ x ≠ ⟨15, 0, 0, 0⟩) ∨ (x.k = 15 ∧ x.a = 0 ∧ x.b = 0 ∧ ¬ x.c = 0 ∧ x ≠ ⟨15, 0, 0, 0⟩) ∨ x = ⟨15, 0, 0, 0⟩ := by
  obtain ⟨k, a, b, c⟩ := x
  simp only [ne_eq, I4.mk.injEq]
  by_cases h1 : k = 15 <;> by_cases h2 : a = 0 <;> by_cases h3 : b = 0 <;> by_cases h4 : c = 0 <;> simp [h1, h2, h3, h4]

set_option maxRecDepth 100000 in
set_option maxHeartbeats 6400000 in
theorem rcheck_any (ao : Option Addr) (n c : Nat) (P : List I4) (w : World) (hP : IRow w ao P) (hn : P.length = n) (h5 : n < 100000) :
    Calls Try.prog 15 #[.slice ao n c] w fun e w' => e = .returned (.int .i64 (chkR (thrA P))) ∧ w.grownBy w' none := by
  have HW := Lib.hid (rwrong_any ao n c P w hP hn h5)
  have HP := Lib.hid hP
  have HN := Lib.hid hn
  have HC := Lib.hid (chk_by P)
  generalize chkR (thrA P) = ck at *
  generalize (thrA P).bad = bad at *
  clear hP hn
  by_cases hb : bad < 0
  · obtain rfl : ck = 0 := by rw [HC.out, if_pos hb]
    go_enter Try.func15, Try.ntmps15
    go_wp2_with fail
    refine HW.out.mono ?_
    rintro e w1 ⟨rfl, hg⟩
    go_wp2_with fail
    go_ret
    exact ⟨rfl, hg⟩
  · obtain ⟨k, rfl⟩ : ∃ k : Nat, bad = k := ⟨bad.toNat, by omega⟩
    by_cases hin : k < n ∧ n ≤ 512
    · obtain ⟨hkn, hn5⟩ := hin
      have hki : (k : Int) < n := by omega
      have hni : (n : Int) ≤ 512 := by omega
      have hkk : ¬ (n : Int) ≤ k := by omega
      obtain ⟨x, hx⟩ : ∃ x, P[k]? = some x := ⟨P[k]'(by rw [HN.out]; omega), List.getElem?_eq_getElem _⟩
      have HCN : Hid (x ≠ ⟨15, 0, 0, 0⟩ → ck = 120) := Lib.hid (fun h => by
        rw [HC.out, if_neg hb, if_neg]
        rintro ⟨_, h2⟩
        rw [Int.toNat_natCast, hx] at h2
        exact h (by injection h2))
      have HCY : Hid (x = ⟨15, 0, 0, 0⟩ → ck = 140) := Lib.hid (fun h => by
        rw [HC.out, if_neg hb, if_pos]
        exact ⟨by rw [HN.out]; exact hn5, by rw [Int.toNat_natCast, hx, h]⟩)
      obtain ⟨bp, offp, rfl, x0, x1, x2, x3⟩ := HP.out k x hx
      have X := Lib.hid (And.intro x0 (And.intro x1 (And.intro x2 x3)))
      clear x0 x1 x2 x3 hx
      have hcs := begin_cases x
      obtain ⟨xk, xa, xb, xc⟩ := x
      simp only at hcs X
      rcases hcs with ⟨e1, hne⟩ | ⟨rfl, e2, hne⟩ | ⟨rfl, rfl, e3, hne⟩ | ⟨rfl, rfl, rfl, e4, hne⟩ | he
      rotate_right 1
      · cases he
        obtain rfl : ck = 140 := HCY.out rfl
        go_enter Try.func15, Try.ntmps15
        go_wp2_with fail
        refine HW.out.mono ?_
        rintro e w1 ⟨rfl, hg⟩
        have y0 := hg.cell X.out.1 (by simp)
        have y1 := hg.cell X.out.2.1 (by simp)
        have y2 := hg.cell X.out.2.2.1 (by simp)
        have y3 := hg.cell X.out.2.2.2 (by simp)
        have HG := Lib.hid hg
        clear hg
        go_wp2_with fail
        go_ret
        exact ⟨rfl, HG.out⟩
      all_goals
        obtain rfl : ck = 120 := HCN.out hne
        clear hne
        go_enter Try.func15, Try.ntmps15
        go_wp2_with fail
        refine HW.out.mono ?_
        rintro e w1 ⟨rfl, hg⟩
        have y0 := hg.cell X.out.1 (by simp)
        have y1 := hg.cell X.out.2.1 (by simp)
        have y2 := hg.cell X.out.2.2.1 (by simp)
        have y3 := hg.cell X.out.2.2.2 (by simp)
        have HG := Lib.hid hg
        clear hg
        go_wp2_with fail
        go_ret
        exact ⟨rfl, HG.out⟩
    · obtain rfl : ck = 120 := by
        rw [HC.out, if_neg hb, if_neg]
        rintro ⟨h1, h2⟩
        have := (List.getElem?_eq_some_iff.1 h2).1
        rw [HN.out] at h1 this
        rw [Int.toNat_natCast] at this
        exact hin ⟨this, h1⟩
      have hdec : ¬ (k : Int) < n ∨ ((k : Int) < n ∧ ¬ (n : Int) ≤ 512) := by omega
      clear hin
      rcases hdec with h1 | ⟨h1, h2⟩
      all_goals
        go_enter Try.func15, Try.ntmps15
        go_wp2_with fail
        refine HW.out.mono ?_
        rintro e w1 ⟨rfl, hg⟩
        go_wp2_with fail
        go_ret
        exact ⟨rfl, hg⟩

set_option maxRecDepth 100000 in
set_option maxHeartbeats 3200000 in
theorem walk_CheckForms (a0 : Option Addr) (a0n a0c : Nat) (w : World) (w0 : Vec w a0 a0n a0c 4 (Q30)) :
    Calls Try.prog 4 #[.slice a0 a0n a0c] w fun e w' => e = .returned (.bool true) ∧ Below w.heap.size w w' := by
  obtain ⟨L, hLl, hL⟩ := vec_instrs w0 (min a0n 60) (by omega)
  have hF := Lib.hid (few_any a0 a0n a0c w w0.1 (by have := w0.2.1; unfold maxLen at this; omega))
  have h60 : min a0n 60 ≤ 60 := by omega
  generalize min a0n 60 = n at *
  have H1 := Lib.hid (fun W g => wrong_any a0 n a0c L W (hL.keep g) hLl (by omega))
  have H2 := Lib.hid (fun W g => rwrong_any a0 n a0c L W (hL.keep g) hLl (by omega))
  have H3 := Lib.hid (fun W g => check_any a0 n a0c L W (hL.keep g) hLl (by omega))
  have H4 := Lib.hid (fun W g => rcheck_any a0 n a0c L W (hL.keep g) hLl (by omega))
  generalize (thrA L).bad = bad at *
  generalize chkR (thrA L) = ck at *
  clear w0 hL hLl
  go_enter Try.func4, Try.ntmps4
  go_wp2_with fail
  refine hF.out.mono ?_
  rintro e w1 ⟨rfl, g1⟩
  have G1 := Lib.hid g1
  clear g1
  go_wp2_with fail
  refine (H1.out _ G1.out).mono ?_
  rintro e w2 ⟨rfl, g2⟩
  have G2 := Lib.hid (g_trans G1.out g2)
  clear g2
  go_wp2_with fail
  refine (H2.out _ G2.out).mono ?_
  rintro e w3 ⟨rfl, g3⟩
  have G3 := Lib.hid (g_trans G2.out g3)
  clear g3
  go_wp2_with fail
  refine (H3.out _ G3.out).mono ?_
  rintro e w4 ⟨rfl, g4⟩
  have G4 := Lib.hid (g_trans G3.out g4)
  clear g4
  go_wp2_with fail
  refine (H4.out _ G4.out).mono ?_
  rintro e w5 ⟨rfl, g5⟩
  have G5 := Lib.hid (g_trans G4.out g5)
  clear g5
  go_wp2_with fail
  refine (awake_any _).mono ?_
  rintro e w6 ⟨rfl, g6⟩
  have G6 := Lib.hid (g_trans G5.out g6)
  clear g6
  go_wp2_with fail
  go_ret
  exact ⟨rfl, below_gn (Below.refl _ _) G6.out (Nat.le_refl _)⟩
end Go.Proofs.Ytfobfcnbbafplaa
