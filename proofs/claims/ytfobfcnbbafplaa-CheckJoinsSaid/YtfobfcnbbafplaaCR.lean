/- Mates go round. -/
import Derived.Test.YtfobfcnbbafplaaRN
import Derived.Test.YtfobfcnbbafplaaAW
namespace Go.Proofs.Ytfobfcnbbafplaa
open Go.RowKit
set_option linter.unusedVariables false
set_option linter.unusedSimpArgs false

theorem matR_acc {P : List I4} (h : chkR (thrA P) = 0) : matR (thrA P) = matJ P P.length ∧ (matJ P P.length).length = P.length := by
  obtain ⟨_, _, hok, _, _, e⟩ := thr_acc ((chk_zero _).1 h)
  refine ⟨?_, (invM P _ (Nat.le_refl _) hok).len⟩
  unfold matR
  rw [if_pos h, e]
theorem kd_ex {P : List I4} {s : Nat} (h : s < P.length) : ∃ x, P[s]? = some x ∧ x.k = kd P s := ⟨P[s], List.getElem?_eq_getElem h, (kd_at (List.getElem?_eq_getElem h)).symm⟩

set_option maxRecDepth 100000 in
set_option maxHeartbeats 6400000 in
theorem walk_CheckRound (a0 : Option Addr) (a0n a0c : Nat) (w : World) (w0 : Vec w a0 a0n a0c 4 (Q30)) :
    Calls Try.prog 3 #[.slice a0 a0n a0c] w fun e w' => e = .returned (.bool true) ∧ Below w.heap.size w w' := by
  obtain ⟨L, hLl, hL⟩ := vec_instrs w0 (min a0n 60) (by omega)
  have hF := Lib.hid (few_any a0 a0n a0c w w0.1 (by have := w0.2.1; unfold maxLen at this; omega))
  have h60 : min a0n 60 ≤ 60 := by omega
  generalize min a0n 60 = n at *
  have HM := Lib.hid (fun W g => mates_any a0 n a0c L W (hL.keep g) hLl (by omega))
  have HP := Lib.hid hL
  have HN := Lib.hid hLl
  clear w0 hL hLl
  go_enter Try.func3, Try.ntmps3
  go_wp2_with fail
  refine hF.out.mono ?_
  rintro e w1 ⟨rfl, g1⟩
  have G1 := Lib.hid g1
  clear g1
  go_wp2_with fail
  refine (HM.out _ G1.out).mono ?_
  rintro e w2 ⟨v, rfl, how, g2⟩
  obtain ⟨lo, lc, rfl, hlr, hl1, hl2, hl3⟩ := nrow_own how
  have G2 := Lib.hid (g_trans G1.out g2)
  clear g2 how
  by_cases hz : chkR (thrA L) = 0
  · obtain ⟨m1, m2⟩ := matR_acc hz
    obtain ⟨_, _, hok, ho, _, _⟩ := thr_acc ((chk_zero _).1 hz)
    rw [hz]
    rw [m1] at hlr hl1 hl3 ⊢
    have hml : (matJ L L.length).length = n := by rw [m2, HN.out]
    have HRD := Lib.hid (fun k hk h15 => round_begin hok ho (k := k) hk h15)
    generalize matJ L L.length = M at *
    rw [hml] at hl1 ⊢
    have HLR := Lib.hid hlr
    clear m1 m2 hz hok ho hlr hl3 hml
    go_wp2_with fail
    refine (awake_any _).mono ?_
    rintro e w3 ⟨rfl, g3⟩
    have HLR := Lib.hid (HLR.out.keep g3)
    have G3 := Lib.hid (g_trans G2.out g3)
    clear g3
    go_wp2_with fail
    go_loopw [5] (fun i wr => ∃ k : Nat, i = .int .i64 k ∧ k ≤ n ∧ w3.grownBy wr none) (fun i _ => (n - intOf i).toNat)
    case atStart => exact ⟨0, rfl, Nat.zero_le _, g_refl _ _⟩
    case round =>
      obtain ⟨k, rfl, hk, hg⟩ := hrel
      by_cases hlt : k < n
      · have hki : (k : Int) < n := by omega
        have hkk : ¬ (n : Int) ≤ k := by omega
        obtain ⟨x, hx, hxk⟩ := kd_ex (P := L) (s := k) (by rw [HN.out]; exact hlt)
        have HIN := Lib.hid (fun s y (h : L[s]? = some y) => HP.out.keep (g_trans G3.out hg) s y h)
        have HML := Lib.hid (HLR.out.keep hg)
        have HG := Lib.hid hg
        clear hg
        obtain ⟨bp, offp, rfl, x0, -⟩ := HIN.out k x hx
        by_cases h15 : x.k = 15
        · rw [h15] at x0
          have hr := HRD.out k (by rw [HN.out]; exact hlt) (by rw [← hxk]; exact h15)
          have HXX := Lib.hid (And.intro hx hxk)
          clear hx hxk h15
          rcases hr with ⟨d, h1, h2, h3, h4, h5⟩ | ⟨e, d, h1, h2, h3, h4, h5, h6, h7, h8, h9⟩
          · obtain ⟨y, hy, hyk⟩ := kd_ex (P := L) (s := d) h2
            obtain ⟨bp', offp', hbo, y0, -⟩ := HIN.out d y hy
            cases hbo
            rw [hyk, h4] at y0
            obtain ⟨bm, offm, rfl, m0⟩ := HML.out k _ h3
            obtain ⟨bm', offm', hbo, m1⟩ := HML.out d _ h5
            cases hbo
            rw [HN.out] at h2
            have e1 : (k : Int) < d := by omega
            have e2 : (d : Int) < n := by omega
            have e3 : ¬ (d : Int) ≤ k := by omega
            have e4 : ¬ (n : Int) ≤ d := by omega
            clear h3 h4 h5 hy hyk
            go_wp2_with fail
            go_roundw
            case rel => exact ⟨k + 1, by go_num, by omega, HG.out⟩
            case measure => simp [intOf]; omega
          · obtain ⟨y, hy, hyk⟩ := kd_ex (P := L) (s := d) h4
            obtain ⟨bp', offp', hbo, y0, -⟩ := HIN.out d y hy
            cases hbo
            rw [hyk, h8] at y0
            obtain ⟨z, hz, hzk⟩ := kd_ex (P := L) (s := e) h2
            obtain ⟨bp', offp', hbo, z0, -⟩ := HIN.out e z hz
            cases hbo
            rw [hzk, h6] at z0
            obtain ⟨bm, offm, rfl, m0⟩ := HML.out k _ h5
            obtain ⟨bm', offm', hbo, m1⟩ := HML.out d _ h9
            cases hbo
            obtain ⟨bm', offm', hbo, m2⟩ := HML.out e _ h7
            cases hbo
            rw [HN.out] at h2 h4
            have e1 : (k : Int) < d := by omega
            have e2 : (d : Int) < n := by omega
            have e3 : ¬ (d : Int) ≤ k := by omega
            have e4 : ¬ (n : Int) ≤ d := by omega
            have e5 : (k : Int) < e := by omega
            have e6 : (e : Int) < n := by omega
            have e7 : ¬ (n : Int) ≤ e := by omega
            clear h5 h6 h7 h8 h9 hy hyk hz hzk
            go_wp2_with fail
            go_roundw
            case rel => exact ⟨k + 1, by go_num, by omega, HG.out⟩
            case measure => simp [intOf]; omega
        · have e15 : (x.k != 15) = true := by simp [h15]
          clear hx hxk
          go_wp2_with fail
          go_roundw
          case rel => exact ⟨k + 1, by go_num, by omega, HG.out⟩
          case measure => simp [intOf]; omega
      · obtain rfl : k = n := by omega
        have hkk : ¬ (k : Int) < k := by omega
        have HG := Lib.hid (g_trans G3.out hg)
        clear hg
        go_wp2_with fail
        go_ret
        exact ⟨rfl, below_gn (Below.refl _ _) HG.out (Nat.le_refl _)⟩
  · have hm0 : matR (thrA L) = [] := by unfold matR; rw [if_neg hz]
    rw [hm0]
    generalize chkR (thrA L) = ck at *
    have hz2 : (ck != 0) = true := by simp [hz]
    simp only [List.length_nil]
    clear hlr hl1 hl2 hl3 hm0
    go_wp2_with fail
    refine (awake_any _).mono ?_
    rintro e w3 ⟨rfl, g3⟩
    have G3 := Lib.hid (g_trans G2.out g3)
    clear g3
    go_wp2_with fail
    go_ret
    exact ⟨rfl, below_gn (Below.refl _ _) G3.out (Nat.le_refl _)⟩
end Go.Proofs.Ytfobfcnbbafplaa
