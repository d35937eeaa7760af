/- Mates, branches, depths and blocks. -/
import Derived.Test.YtfobfcnbbafplaaRE
namespace Go.Proofs.Ytfobfcnbbafplaa
open Go.RowKit
set_option linter.unusedVariables false
set_option linter.unusedSimpArgs false

theorem matJ_len (P : List I4) : ∀ k, (matR (thrA P)).length ≤ P.length + 0 * k := fun k => by
  by_cases hz : chkR (thrA P) = 0
  · obtain ⟨m1, m2⟩ := matR_acc hz
    rw [m1, m2]; omega
  · unfold matR; rw [if_neg hz]; simp
theorem blkA_len (P : List I4) : (blkA P).length ≤ P.length := by
  unfold blkA
  split
  · exact blk_len P _
  · simp

set_option maxRecDepth 100000 in
set_option maxHeartbeats 6400000 in
theorem walk_CheckMates (a0 : Option Addr) (a0n a0c : Nat) (a1 : Int) (w : World) (w0 : Vec w a0 a0n a0c 4 (Q30)) (w1 : (Lit.int .i64 a1).wf = true) :
    Calls Try.prog 8 #[.slice a0 a0n a0c, .int .i64 a1] w fun e w' => e = .returned (.bool true) ∧ Below w.heap.size w w' := by
  obtain ⟨L, hLl, hL⟩ := vec_instrs w0 (min a0n 60) (by omega)
  have hF := Lib.hid (few_any a0 a0n a0c w w0.1 (by have := w0.2.1; unfold maxLen at this; omega))
  have h60 : min a0n 60 ≤ 60 := by omega
  generalize min a0n 60 = n at *
  have HM1 := Lib.hid (fun W g => mates_any a0 n a0c L W (hL.keep g) hLl (by omega))
  have HM2 := Lib.hid (fun W g => rmates_any a0 n a0c L W (hL.keep g) hLl (by omega))
  have HB1 := Lib.hid (fun W g => cbranch_any a0 n a0c L a1 W (hL.keep g) hLl (by omega))
  have HB2 := Lib.hid (fun W g => rbranch_any a0 n a0c L a1 W (hL.keep g) hLl (by omega))
  have HD1 := Lib.hid (fun W g => depth_any a0 n a0c L W (hL.keep g) hLl (by omega))
  have HD2 := Lib.hid (fun W g => rdepth_any a0 n a0c L W (hL.keep g) hLl (by omega))
  have HK1 := Lib.hid (fun W g => blocks_any a0 n a0c L W (hL.keep g) hLl (by omega))
  have HK2 := Lib.hid (fun W g => rblocks_any a0 n a0c L W (hL.keep g) hLl (by omega))
  have hml : (matR (thrA L)).length ≤ 60 := by have := matJ_len L 0; omega
  have hbl : (blkA L).length ≤ 60 := by have := blkA_len L; omega
  generalize blkA L = bk at *
  generalize depA L = dp at *
  generalize brA L a1 = br at *
  generalize thrA L = r at *
  have HS : Hid (∀ (X : List Int), X.length ≤ 60 → ∀ (ao bo : Option Addr) (c d : Nat) (W : World), NRow W ao X → NRow W bo X → Calls Try.prog 23 #[.slice ao X.length c, .slice bo X.length d] W fun e w' => e = .returned (.bool true) ∧ W.grownBy w' none) := Lib.hid (fun X hX ao bo c d W h1 h2 => by
    have h := same_any ao bo X.length X.length c d X X W h1 h2 rfl rfl (by omega)
    rwa [decide_eq_true rfl] at h)
  unfold PMat at HM1 HM2
  generalize matR r = M at *
  generalize chkR r = ck at *
  clear w0 w1 hL hLl
  go_enter Try.func8, Try.ntmps8
  go_wp2_with fail
  refine hF.out.mono ?_
  rintro e w1 ⟨rfl, g1⟩
  have G1 := Lib.hid g1
  clear g1
  go_wp2_with fail
  refine (HM1.out _ G1.out).mono ?_
  rintro e w2 ⟨v, rfl, how, g2⟩
  obtain ⟨lo, lc, rfl, hlr, hl1, hl2, hl3⟩ := nrow_own how
  have HLR := Lib.hid hlr
  have G2 := Lib.hid (g_trans G1.out g2)
  clear g2 how hlr hl1 hl2 hl3
  go_wp2_with fail
  refine (HM2.out _ G2.out).mono ?_
  rintro e w3 ⟨v, rfl, how, g3⟩
  obtain ⟨mo, mc, rfl, hmr, hl1, hl2, hl3⟩ := nrow_own how
  have HLR := Lib.hid (HLR.out.keep g3)
  have HMR := Lib.hid hmr
  have G3 := Lib.hid (g_trans G2.out g3)
  clear g3 how hmr hl1 hl2 hl3
  go_wp2_with fail
  refine (HB1.out _ G3.out).mono ?_
  rintro e w4 ⟨rfl, g4⟩
  have G4 := Lib.hid (g_trans G3.out g4)
  have HLR := Lib.hid (HLR.out.keep g4)
  have HMR := Lib.hid (HMR.out.keep g4)
  clear g4
  go_wp2_with fail
  refine (HB2.out _ G4.out).mono ?_
  rintro e w5 ⟨rfl, g5⟩
  have G5 := Lib.hid (g_trans G4.out g5)
  have HLR := Lib.hid (HLR.out.keep g5)
  have HMR := Lib.hid (HMR.out.keep g5)
  clear g5
  go_wp2_with fail
  refine (HS.out M hml lo mo lc mc w5 HLR.out HMR.out).mono ?_
  rintro e w6 ⟨rfl, g6⟩
  have G6 := Lib.hid (g_trans G5.out g6)
  clear g6
  go_wp2_with fail
  refine (HD1.out _ G6.out).mono ?_
  rintro e w7 ⟨rfl, g7⟩
  have G7 := Lib.hid (g_trans G6.out g7)
  clear g7
  go_wp2_with fail
  refine (HD2.out _ G7.out).mono ?_
  rintro e w8 ⟨rfl, g8⟩
  have G8 := Lib.hid (g_trans G7.out g8)
  clear g8
  go_wp2_with fail
  refine (HK1.out _ G8.out).mono ?_
  rintro e w9 ⟨v, rfl, how, g9⟩
  obtain ⟨lo2, lc2, rfl, hlr, hl1, hl2, hl3⟩ := nrow_own how
  have HLR := Lib.hid hlr
  have G9 := Lib.hid (g_trans G8.out g9)
  clear g9 how hlr hl1 hl2 hl3
  go_wp2_with fail
  refine (HK2.out _ G9.out).mono ?_
  rintro e wA ⟨v, rfl, how, gA⟩
  obtain ⟨mo2, mc2, rfl, hmr, hl1, hl2, hl3⟩ := nrow_own how
  have HLR := Lib.hid (HLR.out.keep gA)
  have HMR := Lib.hid hmr
  have GA := Lib.hid (g_trans G9.out gA)
  clear gA how hmr hl1 hl2 hl3
  go_wp2_with fail
  refine (HS.out bk hbl lo2 mo2 lc2 mc2 wA HLR.out HMR.out).mono ?_
  rintro e wB ⟨rfl, gB⟩
  have GB := Lib.hid (g_trans GA.out gB)
  clear gB
  go_wp2_with fail
  refine (awake_any _).mono ?_
  rintro e wC ⟨rfl, gC⟩
  have GC := Lib.hid (g_trans GB.out gC)
  clear gC
  go_wp2_with fail
  go_ret
  exact ⟨rfl, below_gn (Below.refl _ _) GC.out (Nat.le_refl _)⟩
end Go.Proofs.Ytfobfcnbbafplaa
