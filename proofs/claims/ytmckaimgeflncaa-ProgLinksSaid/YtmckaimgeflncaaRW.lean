/- The law ProgLinks. -/
import Derived.Test.YtmckaimgeflncaaRL
import Derived.Test.YtmckaimgeflncaaPZ
namespace Go.Proofs.Ytmckaimgeflncaa
open Go.RowKit
set_option linter.unusedVariables false
set_option linter.unusedSimpArgs false

def LinkU (f : Nat) (P : List Pt) (m : Nat) (R : List I4) (er : Int) : Prop := ∀ po mc w, PRow w po P → Calls Try.prog f #[.slice po m mc] w fun e w' =>
  ∃ ao n c, e = .returned (.tuple #[.slice ao n c, .int .i64 er]) ∧ IRow w' ao R ∧ R.length = n ∧ n ≤ 9223372036854775807 ∧ w.grownBy w' none
theorem link_u (P : List Pt) (m : Nat) (hm : P.length = m) (hm4 : m ≤ 4) : ∃ R er, LinkU 15 P m R er ∧ LinkU 18 P m R er := by
  have both : ∀ (f : Nat), (∀ po mc w, PRow w po P → Calls Try.prog f #[.slice po m mc] w fun e w' => PLink P w w' e) →
      (512 < tot P → LinkU f P m [] 3) ∧ (tot P ≤ 512 → (∃ x ∈ P, fitL x.L = false) → LinkU f P m [] 110) ∧ (tot P ≤ 512 → (∀ x ∈ P, fitL x.L = true) → LinkU f P m (lk P) 0) := by
    intro f hf
    refine ⟨fun h po mc w hP => (hf po mc w hP).mono ?_, fun h1 h2 po mc w hP => (hf po mc w hP).mono ?_, fun h1 h2 po mc w hP => (hf po mc w hP).mono ?_⟩
    · rintro e w' ⟨g, ⟨_, rfl⟩ | ⟨h', _⟩ | ⟨h', _⟩⟩
      · exact ⟨_, _, _, rfl, irow_nil' _ _, rfl, Nat.zero_le _, g⟩
      · omega
      · omega
    · rintro e w' ⟨g, ⟨h', _⟩ | ⟨_, _, rfl⟩ | ⟨_, h', _⟩⟩
      · omega
      · exact ⟨_, _, _, rfl, irow_nil' _ _, rfl, Nat.zero_le _, g⟩
      · obtain ⟨x, hx, hf⟩ := h2
        rw [h' x hx] at hf; cases hf
    · rintro e w' ⟨g, ⟨h', _⟩ | ⟨_, ⟨x, hx, hf⟩, _⟩ | ⟨_, _, v, rfl, how⟩⟩
      · omega
      · rw [h2 x hx] at hf; cases hf
      · obtain ⟨ao, c, rfl, q1, q2, hir⟩ := own_irow rfl how
        exact ⟨_, _, _, rfl, hir, rfl, Nat.le_trans q1 q2, g⟩
  obtain ⟨a1, a2, a3⟩ := both 15 (fun po mc w hP => link_all po m mc P w hP hm hm4)
  obtain ⟨b1, b2, b3⟩ := both 18 (fun po mc w hP => rlink_all po m mc P w hP hm hm4)
  by_cases ht : 512 < tot P
  · exact ⟨_, _, a1 ht, b1 ht⟩
  · by_cases hx : ∃ x ∈ P, fitL x.L = false
    · exact ⟨_, _, a2 (by omega) hx, b2 (by omega) hx⟩
    · have hall : ∀ x ∈ P, fitL x.L = true := fun x h => by
        cases hf : fitL x.L
        · exact absurd ⟨x, h, hf⟩ hx
        · rfl
      exact ⟨_, _, a3 (by omega) hall, b3 (by omega) hall⟩

set_option maxRecDepth 100000 in
set_option maxHeartbeats 6400000 in
theorem walk_ProgLinks (a0 : Option Addr) (a0n a0c : Nat) (a1 : Option Addr) (a1n a1c : Nat) (a2 : Option Addr) (a2n a2c : Nat) (w : World) (w0 : Vec w a0 a0n a0c 4 (Q42)) (w1 : Vec w a1 a1n a1c 4 (Q42)) (w2 : Vec w a2 a2n a2c 4 (Q42)) :
    Calls Try.prog 6 #[.slice a0 a0n a0c, .slice a1 a1n a1c, .slice a2 a2n a2c] w fun e w' => e = .returned (.bool true) ∧ Below w.heap.size w w' := by
  obtain ⟨L, hLl, hL⟩ := vec_instrs w0 (min a0n 520) (by omega)
  obtain ⟨M, hMl, hM⟩ := vec_instrs w1 (min a1n 520) (by omega)
  obtain ⟨K, hKl, hK⟩ := vec_instrs w2 (min a2n 520) (by omega)
  have hf0 := fun w => few_any a0 a0n a0c w w0.1 (by have := w0.2.1; unfold maxLen at this; omega)
  have hf1 := fun w => few_any a1 a1n a1c w w1.1 (by have := w1.2.1; unfold maxLen at this; omega)
  have hf2 := fun w => few_any a2 a2n a2c w w2.1 (by have := w2.2.1; unfold maxLen at this; omega)
  have hn520 : min a0n 520 ≤ 520 := by omega
  have hm520 : min a1n 520 ≤ 520 := by omega
  have hk520 : min a2n 520 ≤ 520 := by omega
  generalize min a0n 520 = n at *
  generalize min a1n 520 = m at *
  generalize min a2n 520 = k at *
  clear w0 w1 w2
  have HF0 := Lib.hid hf0
  have HF1 := Lib.hid hf1
  have HF2 := Lib.hid hf2
  have HL := Lib.hid hL
  have HM := Lib.hid hM
  have HK := Lib.hid hK
  have HLL := Lib.hid hLl
  have HML := Lib.hid hMl
  have HKL := Lib.hid hKl
  obtain ⟨R, er, u1, u2⟩ := link_u [⟨a0, n, a0c, L⟩, ⟨a1, m, a1c, M⟩, ⟨a2, k, a2c, K⟩] 3 rfl (by omega)
  have HU1 := Lib.hid u1
  have HU2 := Lib.hid u2
  have HPR : Hid (∀ w', w.grownBy w' none → PRow (w'.alloc (.cells #[.slice a0 n a0c, .slice a1 m a1c, .slice a2 k a2c] 22)) (some ⟨w'.heap.size, 0, none⟩) [⟨a0, n, a0c, L⟩, ⟨a1, m, a1c, M⟩, ⟨a2, k, a2c, K⟩]) := Lib.hid (fun w' g => prow_new w' [⟨a0, n, a0c, L⟩, ⟨a1, m, a1c, M⟩, ⟨a2, k, a2c, K⟩] (by
    intro x hx
    simp only [List.mem_cons, List.not_mem_nil, or_false] at hx
    rcases hx with rfl | rfl | rfl
    · exact ⟨hL.keep g, hLl, hn520⟩
    · exact ⟨hM.keep g, hMl, hm520⟩
    · exact ⟨hK.keep g, hKl, hk520⟩))
  have e1 : (er == er) = true := by simp
  have e2 : (eqL L M == eqL L M) = true := by simp
  obtain ⟨q, hq⟩ : ∃ q, eqL L M = q := ⟨_, rfl⟩
  have HQ := Lib.hid hq
  rw [hq] at e2
  clear hf0 hf1 hf2 hL hM hK hLl hMl hKl u1 u2 hq
  go_enter Try.func6, Try.ntmps6
  go_wp2_with fail
  refine (HF0.out _).mono ?_
  rintro e w1 ⟨rfl, g1⟩
  go_wp2_with fail
  refine (HF1.out _).mono ?_
  rintro e w2 ⟨rfl, g2⟩
  go_wp2_with fail
  refine (HF2.out _).mono ?_
  rintro e w3 ⟨rfl, g3⟩
  have G3 := Lib.hid (g_trans (g_trans g1 g2) g3)
  have hP := HPR.out w3 G3.out
  have HC1 := Lib.hid (HU1.out _ 3 _ hP)
  have GA := Lib.hid (g_trans G3.out (g_alloc (g_refl w3 none) (.cells #[.slice a0 n a0c, .slice a1 m a1c, .slice a2 k a2c] 22)))
  clear g1 g2 g3 hP
  go_wp2_with fail
  refine HC1.out.mono ?_
  rintro e w4 ⟨xa, xn, xc, rfl, hx, hxl, hxlt, g4⟩
  have G4 := Lib.hid (g_trans GA.out g4)
  have hP := HPR.out w4 G4.out
  have HC2 := Lib.hid (HU2.out _ 3 _ hP)
  have gb := g_alloc (g_refl w4 none) (.cells #[.slice a0 n a0c, .slice a1 m a1c, .slice a2 k a2c] 22)
  have GB := Lib.hid (g_trans G4.out gb)
  have HX := Lib.hid (And.intro (hx.keep gb) hxl)
  clear g4 hP hx hxl gb
  go_wp2_with fail
  refine HC2.out.mono ?_
  rintro e w5 ⟨ya, yn, yc, rfl, hy, hyl, hylt, g5⟩
  have G5 := Lib.hid (g_trans GB.out g5)
  have HX := Lib.hid (And.intro (HX.out.1.keep g5) HX.out.2)
  have HY := Lib.hid (And.intro hy hyl)
  clear g5 hy hyl
  have HC3 := Lib.hid (link_all none 0 0 [] w5 (fun i x h => (by cases h)) rfl (by omega))
  go_wp2_with fail
  refine HC3.out.mono ?_
  rintro e w6 ⟨g6, ⟨h, _⟩ | ⟨_, ⟨x, hx, _⟩, _⟩ | ⟨_, _, v, rfl, how⟩⟩
  · exact absurd h (by show ¬ (512 : Nat) < 0; omega)
  · cases hx
  obtain ⟨va, vc, rfl⟩ := own_val (by decide) how
  have hl0 : (lk []).length = 0 := rfl
  rw [hl0]
  have G6 := Lib.hid (g_trans G5.out g6)
  have HS1 := Lib.hid (rsame_any xa ya xn xc yn yc R R w6 (HX.out.1.keep g6) (HY.out.1.keep g6) HX.out.2 HY.out.2 hxlt)
  rw [eqL_self] at HS1
  clear g6 how
  go_wp2_with fail
  refine HS1.out.mono ?_
  rintro e w7 ⟨rfl, g7⟩
  have G7 := Lib.hid (g_trans G6.out g7)
  clear g7
  have HS2 := Lib.hid (psame_any a0 a1 n a0c m a1c L M w7 (HL.out.keep G7.out) (HM.out.keep G7.out) HLL.out HML.out (by omega))
  rw [HQ.out] at HS2
  go_wp2_with fail
  refine HS2.out.mono ?_
  rintro e w8 ⟨rfl, g8⟩
  have G8 := Lib.hid (g_trans G7.out g8)
  clear g8
  have HS3 := Lib.hid (rsame_any a0 a1 n a0c m a1c L M w8 (HL.out.keep G8.out) (HM.out.keep G8.out) HLL.out HML.out (by omega))
  rw [HQ.out] at HS3
  go_wp2_with fail
  refine HS3.out.mono ?_
  rintro e w9 ⟨rfl, g9⟩
  have G9 := Lib.hid (g_trans G8.out g9)
  clear g9
  have HS4 := Lib.hid (psame_any a2 a2 k a2c k a2c K K w9 (HK.out.keep G9.out) (HK.out.keep G9.out) HKL.out HKL.out (by omega))
  rw [eqL_self] at HS4
  go_wp2_with fail
  refine HS4.out.mono ?_
  rintro e w10 ⟨rfl, g10⟩
  go_wp2_with fail
  refine (awake_any _).mono ?_
  rintro e w11 ⟨rfl, g11⟩
  go_wp2_with fail
  go_ret
  exact ⟨rfl, below_gn (Below.refl _ _) (g_trans (g_trans G9.out g10) g11) (Nat.le_refl _)⟩
end Go.Proofs.Ytmckaimgeflncaa
