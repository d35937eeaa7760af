/- A program goes on, and jumps, within a branch. -/
import Derived.Test.YtfobfcnbbafplaaKB
import Derived.Test.YtfobfcnbbafplaaAW
namespace Go.Proofs.Ytfobfcnbbafplaa
open Go.RowKit
set_option linter.unusedVariables false
set_option linter.unusedSimpArgs false

theorem firstBad_neg (n : Nat) (T : List (Int × Int)) : ∀ (L : List I4) (k : Nat), firstBad n T k L = -1 → ∀ t x, L[t]? = some x → isJ x.k = true → ¬ (n : Int) < tgt x.k x.a x.b ∧ T.getD (tgt x.k x.a x.b).toNat (0, 0) = T.getD (k + t) (0, 0) := by
  intro L
  induction L with
  | nil => intro k _ t x h; simp at h
  | cons y r ih =>
    intro k h t x ht hj
    rw [firstBad] at h
    split at h
    · omega
    · next hc =>
      cases t with
      | zero =>
        simp at ht; subst ht
        rw [hj] at hc
        simp only [Bool.true_and, Bool.or_eq_true, decide_eq_true_eq, not_or, ne_eq, Classical.not_not] at hc
        exact hc
      | succ t =>
        have := ih (k + 1) h t x (by simpa using ht) hj
        rw [show k + (t + 1) = k + 1 + t by omega]; exact this
theorem brA_in {P : List I4} {k : Nat} (h : (thrA P).bad < 0) (hk : k ≤ P.length) : brA P k = topP (opn P k) := by
  unfold brA; rw [if_pos ⟨h, by omega, by omega⟩, Int.toNat_natCast]
/-- the branch where a program goes on -/
theorem stays {P : List I4} (h : (thrA P).bad < 0) {k : Nat} {x : I4} (hx : P[k]? = some x) (h15 : x.k ≠ 15) (h16 : x.k ≠ 16) (h17 : x.k ≠ 17) :
    brA P (if isJ x.k then tgt x.k x.a x.b else (k : Int) + 1) = brA P k := by
  obtain ⟨h1, h5, hj, ho, hf, -⟩ := thr_acc h
  have hk := (List.getElem?_eq_some_iff.1 hx).1
  obtain ⟨hok, hst⟩ := hj k x hk hx
  rw [brA_in h (by omega)]
  cases hjj : isJ x.k
  · rw [if_neg (by simp), show (k : Int) + 1 = (k + 1 : Nat) by omega, brA_in h (by omega), opn_succ hx]
    congr 1
    unfold rstep
    rw [if_neg h15, if_neg h16, if_neg h17]
    split
    · rfl
    · split <;> rfl
  · rw [if_pos rfl]
    obtain ⟨t, ht, ht5⟩ := tgt_in hok hjj
    obtain ⟨q1, q2⟩ := firstBad_neg _ _ P 0 hf k x hx hjj
    rw [ht] at q1 q2 ⊢
    rw [brA_in h (by omega)]
    rw [Int.toNat_natCast, Nat.zero_add, tops_at P (by omega), tops_at P (by omega)] at q2
    exact q2

set_option maxRecDepth 100000 in
set_option maxHeartbeats 6400000 in
theorem walk_CheckStays (a0 : Option Addr) (a0n a0c : Nat) (w : World) (w0 : Vec w a0 a0n a0c 4 (Q30)) :
    Calls Try.prog 5 #[.slice a0 a0n a0c] w fun e w' => e = .returned (.bool true) ∧ Below w.heap.size w w' := by
  obtain ⟨L, hLl, hL⟩ := vec_instrs w0 (min a0n 60) (by omega)
  have hF := Lib.hid (few_any a0 a0n a0c w w0.1 (by have := w0.2.1; unfold maxLen at this; omega))
  have h60 : min a0n 60 ≤ 60 := by omega
  generalize min a0n 60 = n at *
  have HCK := Lib.hid (fun W g => check_any a0 n a0c L W (hL.keep g) hLl (by omega))
  have HBR := Lib.hid (fun pl W g => cbranch_any a0 n a0c L pl W (hL.keep g) hLl (by omega))
  have HP := Lib.hid hL
  have HN := Lib.hid hLl
  have HZ := Lib.hid (chk_zero (thrA L))
  generalize chkR (thrA L) = ck at *
  clear w0 hL hLl
  go_enter Try.func5, Try.ntmps5
  go_wp2_with fail
  refine hF.out.mono ?_
  rintro e w1 ⟨rfl, g1⟩
  have G1 := Lib.hid g1
  clear g1
  go_wp2_with fail
  refine (HCK.out _ G1.out).mono ?_
  rintro e w2 ⟨rfl, g2⟩
  have G2 := Lib.hid (g_trans G1.out g2)
  clear g2
  by_cases hz : ck = 0
  · subst hz
    have HS := Lib.hid (fun k x hx => stays (P := L) (HZ.out.1 rfl) (k := k) (x := x) hx)
    go_wp2_with fail
    refine (awake_any _).mono ?_
    rintro e w3 ⟨rfl, g3⟩
    have G3 := Lib.hid (g_trans G2.out g3)
    clear g3
    go_wp2_with fail
    go_loopw [3] (fun i wr => ∃ k : Nat, i = .int .i64 k ∧ k ≤ n ∧ w.grownBy wr none) (fun i _ => (n - intOf i).toNat)
    case atStart => exact ⟨0, rfl, Nat.zero_le _, G3.out⟩
    case round =>
      obtain ⟨k, rfl, hk, hg⟩ := hrel
      by_cases hlt : k < n
      · have hki : (k : Int) < n := by omega
        have hkk : ¬ (n : Int) ≤ k := by omega
        obtain ⟨x, hx⟩ : ∃ x, L[k]? = some x := ⟨L[k]'(by rw [HN.out]; omega), List.getElem?_eq_getElem _⟩
        have HX := Lib.hid (HP.out k x hx)
        have HXS := Lib.hid (HS.out k x hx)
        have HB1 := Lib.hid (HBR.out k wr hg)
        have HB2 := Lib.hid (fun pl W g => HBR.out pl W (g_trans hg g))
        have HTG := Lib.hid (fun W => rtarget_any x.k x.a x.b x.c W)
        have HG := Lib.hid hg
        clear hx hg
        obtain ⟨b1, hb1⟩ : ∃ b1, (brA L (k : Int)).1 = b1 := ⟨_, rfl⟩
        obtain ⟨b2, hb2⟩ : ∃ b2, (brA L (k : Int)).2 = b2 := ⟨_, rfl⟩
        rw [hb1, hb2] at HB1
        have HBB := Lib.hid (And.intro hb1 hb2)
        clear hb1 hb2
        go_wp2_with fail
        refine HB1.out.mono ?_
        rintro e w4 ⟨rfl, g4⟩
        obtain ⟨bp, offp, rfl, x0, x1, x2, x3⟩ := HX.out
        have y0 := (g_trans HG.out g4)
        have z0 := g4.cell ((HG.out.cell x0 (by simp))) (by simp)
        have z1 := g4.cell ((HG.out.cell x1 (by simp))) (by simp)
        have z2 := g4.cell ((HG.out.cell x2 (by simp))) (by simp)
        have z3 := g4.cell ((HG.out.cell x3 (by simp))) (by simp)
        have G4 := Lib.hid y0
        have g4' := Lib.hid g4
        clear y0 g4
        obtain ⟨xk, xa, xb, xc⟩ := x
        simp only at HXS HTG z0 z1 z2 z3 x0
        go_wp2_with fail
        refine (HTG.out _).mono ?_
        rintro e w5 ⟨rfl, g5⟩
        have G5 := Lib.hid (g_trans G4.out g5)
        have g5' := Lib.hid (g_trans g4'.out g5)
        have q0 := g5.cell z0 (by simp)
        clear g5 z0 z1 z2 z3 x0 x1 x2 x3
        obtain ⟨tt, htt⟩ : ∃ tt, tgt xk xa xb = tt := ⟨_, rfl⟩
        rw [htt] at HXS ⊢
        clear htt
        by_cases h15 : xk = 15
        · subst h15
          have hj : isJ 15 = false := rfl
          rw [hj]
          go_wp2_with fail
          go_roundw
          case rel => exact ⟨k + 1, by go_num, by omega, G5.out⟩
          case measure => simp [intOf]; omega
        by_cases h16 : xk = 16
        · subst h16
          have hj : isJ 16 = false := rfl
          rw [hj]
          go_wp2_with fail
          go_roundw
          case rel => exact ⟨k + 1, by go_num, by omega, G5.out⟩
          case measure => simp [intOf]; omega
        by_cases h17 : xk = 17
        · subst h17
          have hj : isJ 17 = false := rfl
          rw [hj]
          go_wp2_with fail
          go_roundw
          case rel => exact ⟨k + 1, by go_num, by omega, G5.out⟩
          case measure => simp [intOf]; omega
        have e15 : (xk == 15) = false := by simp [h15]
        have e16 : (xk == 16) = false := by simp [h16]
        have e17 : (xk == 17) = false := by simp [h17]
        have hst := HXS.out h15 h16 h17
        cases hj : isJ xk
        all_goals
          rw [hj] at hst
          simp only [if_true, if_false, Bool.false_eq_true] at hst
        · have HB3 := Lib.hid (HB2.out ((k : Int) + 1) w5 g5'.out)
          rw [hst, HBB.out.1, HBB.out.2] at HB3
          clear hst hj
          go_wp2_with fail
          refine HB3.out.mono ?_
          rintro e w6 ⟨rfl, g6⟩
          have G6 := Lib.hid (g_trans G5.out g6)
          clear g6
          go_wp2_with fail
          go_roundw
          case rel => exact ⟨k + 1, by go_num, by omega, G6.out⟩
          case measure => simp [intOf]; omega
        · have HB3 := Lib.hid (HB2.out tt w5 g5'.out)
          rw [hst, HBB.out.1, HBB.out.2] at HB3
          clear hst hj
          go_wp2_with fail
          refine HB3.out.mono ?_
          rintro e w6 ⟨rfl, g6⟩
          have G6 := Lib.hid (g_trans G5.out g6)
          clear g6
          go_wp2_with fail
          go_roundw
          case rel => exact ⟨k + 1, by go_num, by omega, G6.out⟩
          case measure => simp [intOf]; omega
      · obtain rfl : k = n := by omega
        have hkk : ¬ (k : Int) < k := by omega
        have HG := Lib.hid hg
        clear hg
        go_wp2_with fail
        go_ret
        exact ⟨rfl, below_gn (Below.refl _ _) HG.out (Nat.le_refl _)⟩
  · have hz2 : (ck != 0) = true := by simp [hz]
    go_wp2_with fail
    refine (awake_any _).mono ?_
    rintro e w3 ⟨rfl, g3⟩
    have G3 := Lib.hid (g_trans G2.out g3)
    clear g3
    go_wp2_with fail
    go_ret
    exact ⟨rfl, below_gn (Below.refl _ _) G3.out (Nat.le_refl _)⟩
end Go.Proofs.Ytfobfcnbbafplaa
