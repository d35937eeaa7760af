/- How long a program, and how deep its blocks, may be. -/
import Derived.Test.YtfobfcnbbafplaaAW
namespace Go.Proofs.Ytfobfcnbbafplaa
open Go.RowKit
set_option linter.unusedVariables false
set_option linter.unusedSimpArgs false

theorem iv_rep (P : List I4) (j : Nat) (k : Int) : iv (P ++ List.replicate (j + 1) (op1 k)) = iv (P ++ List.replicate j (op1 k)) ++ [.int .i64 k, .int .i64 0, .int .i64 0, .int .i64 0] := by
  rw [List.replicate_succ', ← List.append_assoc, iv_snoc]; rfl
theorem goP_halts (m : Nat) : ∀ (kn : Nat) (T : List (Int × Int)) (M : List Int), goP kn (List.replicate m (op1 20)) [] T M = ⟨[], T ++ List.replicate m (-1, 0), M, -1, false⟩ := by
  induction m with
  | zero => intro kn T M; simp [goP]
  | succ m ih =>
    intro kn T M
    have hs : stepP kn (op1 20) [] M = (true, [], M, false) := by
      have h : okx (op1 20) = true := by decide
      unfold stepP
      rw [h]
      simp [op1, topP]
    rw [List.replicate_succ]
    unfold goP
    rw [hs]
    simp only [if_true]
    rw [ih, List.replicate_succ, List.append_assoc]; rfl
theorem first_halts (n : Nat) (T : List (Int × Int)) (m : Nat) : ∀ k, firstBad n T k (List.replicate m (op1 20)) = -1 := by
  induction m with
  | zero => intro k; rfl
  | succ m ih =>
    intro k
    rw [List.replicate_succ]
    unfold firstBad
    rw [show isJ (op1 20).k = false from rfl, Bool.false_and]
    simpa using ih (k + 1)
theorem halts_chk (n : Nat) (h1 : 1 ≤ n) : (chkR (thrA (List.replicate n (op1 20))) = 0) ↔ n ≤ 512 := by
  unfold thrA
  rw [List.length_replicate]
  by_cases h : 512 < n
  · rw [if_pos (.inr h)]
    simp [chkR]; omega
  · rw [if_neg (by omega)]
    have ht : thr (List.replicate n (op1 20)) = ⟨[], [] ++ List.replicate n (-1, 0) ++ [(-1, 0)], List.replicate n (-1), -1, false⟩ := by
      unfold thr
      rw [List.length_replicate, goP_halts]
      simp [topP, first_halts]
    rw [ht]
    simp [chkR]; omega
theorem iv_app (P : List I4) (k : Int) : iv (P ++ [op1 k]) = iv P ++ [.int .i64 k, .int .i64 0, .int .i64 0, .int .i64 0] := by rw [iv_snoc]; rfl
/-- a loop that appends instructions of a kind that has nothing -/
def Rnd (B : World) (k : Int) (P : List I4) (m cnt : Nat) (o i : Value) (wr : World) : Prop := ∃ j : Nat, i = .int .i64 j ∧ j ≤ cnt ∧ wr.ownsRow B.heap.size 31 4 o (m + j) (iv (P ++ List.replicate j (op1 k))) ∧ B.grownBy wr none
theorem rnd_zero {B : World} {k : Int} {P : List I4} {m cnt : Nat} {o : Value} {wr : World} (h : wr.ownsRow B.heap.size 31 4 o m (iv P)) (g : B.grownBy wr none) : Rnd B k P m cnt o (.int .i64 0) wr := ⟨0, rfl, Nat.zero_le _, by simpa using h, g⟩
theorem rnd_succ {B : World} {k : Int} {P : List I4} {m cnt j : Nat} {o : Value} {wr : World} (hj : j < cnt) (h : wr.ownsRow B.heap.size 31 4 o (m + j + 1) (iv (P ++ List.replicate j (op1 k)) ++ [.int .i64 k, .int .i64 0, .int .i64 0, .int .i64 0])) (g : B.grownBy wr none) : Rnd B k P m cnt o (.int .i64 ((j : Int) + 1)) wr := ⟨j + 1, by simp, by omega, by rw [iv_rep]; exact h, g⟩
/-- d blocks within one another -/
def nest (d : Nat) : List I4 := List.replicate d (op1 15) ++ [op1 19] ++ List.replicate d (op1 17)
theorem nest_few : ∀ d, d < 9 → chkR (thrA (nest d)) = 0 ∧ (thrA (nest d)).bad = -1 ∧ depA (nest d) = d := by decide
theorem nest_many : ∀ d, d < 12 → 8 < d → chkR (thrA (nest d)) = 140 ∧ (thrA (nest d)).bad = 8 ∧ depA (nest d) = 0 := by decide

set_option maxRecDepth 100000 in
set_option maxHeartbeats 12800000 in
theorem walk_CheckBounds (a0 : Int) (a1 : Int) (w : World) (w0 : (Lit.int .u8 a0).wf = true) (w1 : (Lit.int .u8 a1).wf = true) :
    Calls Try.prog 6 #[.int .u8 a0, .int .u8 a1] w fun e w' => e = .returned (.bool true) ∧ Below w.heap.size w w' := by
  obtain ⟨i0, hi, hz0, hz1, hz2⟩ := info_parts info31
  have b0 : 0 ≤ a0 ∧ a0 ≤ 255 := by simpa [Lit.wf, IntKind.min, IntKind.max, IntKind.signed, IntKind.bits] using w0
  have b1 : 0 ≤ a1 ∧ a1 ≤ 255 := by simpa [Lit.wf, IntKind.min, IntKind.max, IntKind.signed, IntKind.bits] using w1
  obtain ⟨r, hr⟩ : ∃ r, a0 % 3 = r := ⟨_, rfl⟩
  obtain ⟨n, hn⟩ : ∃ n : Nat, 511 + r = n := ⟨(511 + r).toNat, by omega⟩
  obtain ⟨d, hd⟩ : ∃ d : Nat, a1 % 12 = d := ⟨(a1 % 12).toNat, by omega⟩
  have hnb : 511 ≤ n ∧ n ≤ 513 := by omega
  have hdb : d < 12 := by omega
  clear w0 w1
  go_enter Try.func6, Try.ntmps6
  go_wp2_with fail
  clear hr hn b0
  go_loopw [6, 7] (fun o i wr => Rnd w 20 [] 0 n o i wr) (fun _ i _ => (n - intOf i).toNat)
  case atStart => exact rnd_zero (World.ownsRow_nil _ _ _ _) (g_refl _ _)
  case round =>
    obtain ⟨j1, rfl, hj, ho, hg⟩ := hrel
    by_cases hlt : j1 < n
    · have hji : (j1 : Int) < n := by omega
      have ga := g_alloc (g_refl wr none) (.cells #[.int .i64 20, .int .i64 0, .int .i64 0, .int .i64 0] 31)
      have HO5 := Lib.hid (own_keepn ho ga)
      have G5 := Lib.hid (g_trans hg ga)
      have HNW := Lib.hid (news4 wr 20 0 0 0)
      have HON := Lib.hid (ones4 20 0 0 0)
      have hz5 := G5.out.size
      clear ho hg ga
      go_wp2_with (at_builtin; refine wpList_append_own _ rfl _ _ 22 rfl w.heap.size 31 i0 (.agg #[.int .i64 0, .int .i64 0, .int .i64 0, .int .i64 0]) 4 32 Try.underlying22 hi hz0 hz1 hz2 rfl (by decide) _ _ _ rfl HO5.out ⟨wr.heap.size, 0, none⟩ 1 1 [.int .i64 20, .int .i64 0, .int .i64 0, .int .i64 0] rfl rfl HNW.out HON.out (by unfold maxLen; omega) (by omega) hz5 ?_; intro v6 w6 hown hgrow _)
      have HO6 := Lib.hid hown
      have G6 := Lib.hid (g_own2 G5.out (Nat.le_refl _) HO5.out hgrow)
      clear hown hgrow
      go_wp2_with fail
      go_roundw
      case rel => exact rnd_succ hlt HO6.out G6.out
      case measure => simp [intOf]; omega
    · obtain rfl : j1 = n := by omega
      have hjj : ¬ (j1 : Int) < j1 := by omega
      have HPR0 := Lib.hid ho
      have HG1 := Lib.hid hg
      clear ho hg
      obtain ⟨po, pc, rfl, hpr, hp1, hp2, hp3⟩ := irow_own HPR0.out
      have HPROW := Lib.hid hpr
      clear hpr
      obtain ⟨wp_, hwp⟩ : ∃ wp_ : World, wp_ = wr := ⟨_, rfl⟩
      subst hwp
      go_wp2_with fail
      clear hd b1
      go_loopw [9, 10] (fun o i wr => Rnd wp_ 15 [] 0 d o i wr) (fun _ i _ => (d - intOf i).toNat)
      case atStart => exact rnd_zero (World.ownsRow_nil _ _ _ _) (g_refl _ _)
      case round =>
        obtain ⟨j2, rfl, hj, ho, hg⟩ := hrel
        by_cases hlt : j2 < d
        · have hji : (j2 : Int) < d := by omega
          have ga := g_alloc (g_refl wr none) (.cells #[.int .i64 15, .int .i64 0, .int .i64 0, .int .i64 0] 31)
          have HO5 := Lib.hid (own_keepn ho ga)
          have G5 := Lib.hid (g_trans hg ga)
          have HNW := Lib.hid (news4 wr 15 0 0 0)
          have HON := Lib.hid (ones4 15 0 0 0)
          have hz5 := G5.out.size
          clear ho hg ga
          go_wp2_with (at_builtin; refine wpList_append_own _ rfl _ _ 22 rfl wp_.heap.size 31 i0 (.agg #[.int .i64 0, .int .i64 0, .int .i64 0, .int .i64 0]) 4 32 Try.underlying22 hi hz0 hz1 hz2 rfl (by decide) _ _ _ rfl HO5.out ⟨wr.heap.size, 0, none⟩ 1 1 [.int .i64 15, .int .i64 0, .int .i64 0, .int .i64 0] rfl rfl HNW.out HON.out (by unfold maxLen; omega) (by omega) hz5 ?_; intro v6 w6 hown hgrow _)
          have HO6 := Lib.hid hown
          have G6 := Lib.hid (g_own2 G5.out (Nat.le_refl _) HO5.out hgrow)
          clear hown hgrow
          go_wp2_with fail
          go_roundw
          case rel => exact rnd_succ hlt HO6.out G6.out
          case measure => simp [intOf]; omega
        · obtain rfl : j2 = d := by omega
          have hjj : ¬ (j2 : Int) < j2 := by omega
          have HQ1 := Lib.hid ho
          have ga := g_alloc (g_refl wr none) (.cells #[.int .i64 19, .int .i64 0, .int .i64 0, .int .i64 0] 31)
          have HO5 := Lib.hid (own_keepn HQ1.out ga)
          have G5 := Lib.hid (g_trans hg ga)
          have HNW := Lib.hid (news4 wr 19 0 0 0)
          have HON := Lib.hid (ones4 19 0 0 0)
          have hz5 := G5.out.size
          clear hg ga ho
          go_wp2_with (at_builtin; refine wpList_append_own _ rfl _ _ 22 rfl wp_.heap.size 31 i0 (.agg #[.int .i64 0, .int .i64 0, .int .i64 0, .int .i64 0]) 4 32 Try.underlying22 hi hz0 hz1 hz2 rfl (by decide) _ _ _ rfl HO5.out ⟨wr.heap.size, 0, none⟩ 1 1 [.int .i64 19, .int .i64 0, .int .i64 0, .int .i64 0] rfl rfl HNW.out HON.out (by unfold maxLen; omega) (by omega) hz5 ?_; intro v6 w6 hown hgrow _)
          have HO6 := Lib.hid hown
          have G6 := Lib.hid (g_own2 G5.out (Nat.le_refl _) HO5.out hgrow)
          clear hown hgrow
          go_wp2_with fail
          go_loopw [9, 11] (fun o i wr => Rnd wp_ 17 ([] ++ List.replicate j2 (op1 15) ++ [op1 19]) (0 + j2 + 1) j2 o i wr) (fun _ i _ => (j2 - intOf i).toNat)
          case atStart => exact rnd_zero (by rw [iv_app]; exact HO6.out) (G6.out)
          case round =>
            obtain ⟨j3, rfl, hj, ho, hg⟩ := hrel
            by_cases hlt : j3 < j2
            · have hji : (j3 : Int) < j2 := by omega
              have ga := g_alloc (g_refl wr none) (.cells #[.int .i64 17, .int .i64 0, .int .i64 0, .int .i64 0] 31)
              have HO5 := Lib.hid (own_keepn ho ga)
              have G5 := Lib.hid (g_trans hg ga)
              have HNW := Lib.hid (news4 wr 17 0 0 0)
              have HON := Lib.hid (ones4 17 0 0 0)
              have hz5 := G5.out.size
              clear ho hg ga
              go_wp2_with (at_builtin; refine wpList_append_own _ rfl _ _ 22 rfl wp_.heap.size 31 i0 (.agg #[.int .i64 0, .int .i64 0, .int .i64 0, .int .i64 0]) 4 32 Try.underlying22 hi hz0 hz1 hz2 rfl (by decide) _ _ _ rfl HO5.out ⟨wr.heap.size, 0, none⟩ 1 1 [.int .i64 17, .int .i64 0, .int .i64 0, .int .i64 0] rfl rfl HNW.out HON.out (by unfold maxLen; omega) (by omega) hz5 ?_; intro v6 w6 hown hgrow _)
              have HO6 := Lib.hid hown
              have G6 := Lib.hid (g_own2 G5.out (Nat.le_refl _) HO5.out hgrow)
              clear hown hgrow
              go_wp2_with fail
              go_roundw
              case rel => exact rnd_succ hlt HO6.out G6.out
              case measure => simp [intOf]; omega
            · obtain rfl : j3 = j2 := by omega
              have hjj : ¬ (j3 : Int) < j3 := by omega
              have HQ := Lib.hid (own_mono ho (Nat.zero_le _))
              have HGQ := Lib.hid (g_trans HG1.out hg)
              have HPR := Lib.hid (HPROW.out.keep hg)
              clear ho hg
              obtain ⟨qo, qc, rfl, hqr, hq1, hq2, hq3⟩ := irow_own HQ.out
              have HQR := Lib.hid hqr
              clear hqr
              have HCQ := Lib.hid (fun w' g => check_any qo (j3 + 1 + j3) qc _ w' (HQR.out.keep g) (by rw [hq3]; omega) (by omega))
              have HWQ := Lib.hid (fun w' g => wrong_any qo (j3 + 1 + j3) qc _ w' (HQR.out.keep g) (by rw [hq3]; omega) (by omega))
              have HDQ := Lib.hid (fun w' g => depth_any qo (j3 + 1 + j3) qc _ w' (HQR.out.keep g) (by rw [hq3]; omega) (by omega))
              have HCP := Lib.hid (fun w' g => check_any po j1 pc _ w' (HPR.out.keep g) (by rw [hp3]; omega) (by omega))
              have eN : [] ++ List.replicate j3 (op1 15) ++ [op1 19] ++ List.replicate j3 (op1 17) = nest j3 := rfl
              rw [eN] at HCQ HWQ HDQ
              rw [List.nil_append] at HCP
              have hhc := halts_chk j1 (by omega)
              generalize chkR (thrA (List.replicate j1 (op1 20))) = cp at *
              by_cases h8 : 8 < j3
              · have h8i : (8 : Int) < j3 := by omega
                obtain ⟨f1, f2, f3⟩ := nest_many j3 hdb h8
                rw [f1] at HCQ
                rw [f2] at HWQ
                rw [f3] at HDQ
                have hc3 : (cp == 0) = decide ((j1 : Int) ≤ 512) := by rw [Bool.eq_iff_iff]; simp; omega
                clear hhc f1 f2 f3
                go_wp2_with fail
                refine (HCQ.out _ (g_refl _ _)).mono ?_
                rintro e wa ⟨rfl, ga⟩
                have GA := Lib.hid ga
                clear ga
                go_wp2_with fail
                refine (HCP.out _ GA.out).mono ?_
                rintro e wb ⟨rfl, gb⟩
                have GB := Lib.hid (g_trans GA.out gb)
                clear gb
                go_wp2_with fail
                refine (HWQ.out _ GB.out).mono ?_
                rintro e wc ⟨rfl, gc⟩
                have GC := Lib.hid (g_trans GB.out gc)
                clear gc
                go_wp2_with fail
                refine (HDQ.out _ GC.out).mono ?_
                rintro e wd ⟨rfl, gd⟩
                have GD := Lib.hid (g_trans GC.out gd)
                clear gd
                go_wp2_with fail
                refine (awake_any _).mono ?_
                rintro e we ⟨rfl, ge⟩
                have GE := Lib.hid (g_trans GD.out ge)
                clear ge
                go_wp2_with fail
                go_ret
                exact ⟨rfl, below_gn (Below.refl _ _) (g_trans HGQ.out GE.out) (Nat.le_refl _)⟩
              · have h8i : ¬ (8 : Int) < j3 := by omega
                obtain ⟨f1, f2, f3⟩ := nest_few j3 (by omega)
                rw [f1] at HCQ
                rw [f2] at HWQ
                rw [f3] at HDQ
                have hc3 : (cp == 0) = decide ((j1 : Int) ≤ 512) := by rw [Bool.eq_iff_iff]; simp; omega
                clear hhc f1 f2 f3
                go_wp2_with fail
                refine (HCQ.out _ (g_refl _ _)).mono ?_
                rintro e wa ⟨rfl, ga⟩
                have GA := Lib.hid ga
                clear ga
                go_wp2_with fail
                refine (HCP.out _ GA.out).mono ?_
                rintro e wb ⟨rfl, gb⟩
                have GB := Lib.hid (g_trans GA.out gb)
                clear gb
                go_wp2_with fail
                refine (HWQ.out _ GB.out).mono ?_
                rintro e wc ⟨rfl, gc⟩
                have GC := Lib.hid (g_trans GB.out gc)
                clear gc
                go_wp2_with fail
                refine (HDQ.out _ GC.out).mono ?_
                rintro e wd ⟨rfl, gd⟩
                have GD := Lib.hid (g_trans GC.out gd)
                clear gd
                go_wp2_with fail
                refine (awake_any _).mono ?_
                rintro e we ⟨rfl, ge⟩
                have GE := Lib.hid (g_trans GD.out ge)
                clear ge
                go_wp2_with fail
                go_ret
                exact ⟨rfl, below_gn (Below.refl _ _) (g_trans HGQ.out GE.out) (Nat.le_refl _)⟩
end Go.Proofs.Ytfobfcnbbafplaa
