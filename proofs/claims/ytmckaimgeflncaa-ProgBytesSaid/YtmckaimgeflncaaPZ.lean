/- The law ProgBack. -/
import Derived.Test.YtmckaimgeflncaaPX
import Derived.Test.YtmckaimgeflncaaPY
namespace Go.Proofs.Ytmckaimgeflncaa
open Go.RowKit
set_option linter.unusedVariables false
set_option linter.unusedSimpArgs false

theorem full_bytes {L : List I4} (h : okL L = true) (hl : L.length ≤ 512) : ∀ y ∈ full L, 0 ≤ y ∧ y ≤ 255 := by
  unfold full bodyB
  refine bytes_app (bytes_app (hdB_bytes hl) (flatB_bytes h)) (fun y hy => ?_)
  simp only [List.mem_cons, List.not_mem_nil, or_false] at hy
  have := sumB_range (hdB L.length ++ flatB L)
  omega

theorem fz_keep {w w' : World} {b i : Nat} (g : w.grownBy w' none) (h : b < w.heap.size) : w'.frozen? ⟨b, i, none⟩ = w.frozen? ⟨b, i, none⟩ :=
  World.frozen?_of_block (a := ⟨b, i, none⟩) (g.block b h (by simp))
theorem own_irow {w : World} {base : Nat} {v : Value} {L : List I4} {n : Nat} (hn : L.length = n) (h : w.ownsRow base 43 4 v n (iv L)) : ∃ ao c, v = .slice ao n c ∧ n ≤ c ∧ c ≤ 9223372036854775807 ∧ IRow w ao L := by
  rcases own_form (by decide) h with ⟨rfl, h0⟩ | ⟨g, c, rfl, h1, h2, h3⟩
  · subst h0
    have hl0 : L = [] := List.eq_nil_of_length_eq_zero hn
    exact ⟨none, 0, rfl, by omega, by omega, by rw [hl0]; exact irow_nil' _ _⟩
  · exact ⟨_, c, rfl, h1, h2, irow_own h3⟩

set_option maxRecDepth 100000 in
set_option maxHeartbeats 6400000 in
theorem walk_ProgBack (a0 : Option Addr) (a0n a0c : Nat) (a1 : Option Addr) (a1n a1c : Nat) (a2 : Int) (a3 : Int) (w : World) (w0 : Vec w a0 a0n a0c 4 (Q42)) (w1 : Vec w a1 a1n a1c 1 (Q5)) (w2 : (Lit.int .u16 a2).wf = true) (w3 : (Lit.int .u8 a3).wf = true) :
    Calls Try.prog 4 #[.slice a0 a0n a0c, .slice a1 a1n a1c, .int .u16 a2, .int .u8 a3] w fun e w' => e = .returned (.bool true) ∧ Below w.heap.size w w' := by
  obtain ⟨L, hLl, hL⟩ := vec_instrs w0 (min a0n 520) (by omega)
  obtain ⟨B, hBl, hB⟩ := vec_bytes w1 (min a1n 6000) (by omega)
  have hf0 := fun w => few_any a0 a0n a0c w w0.1 (by have := w0.2.1; unfold maxLen at this; omega)
  have hf1 := fun w => cut_any a1 a1n a1c w w1.1 (by have := w1.2.1; unfold maxLen at this; omega)
  have hc0 : min a0n 520 ≤ a0c := by have := w0.1; omega
  have hc1 : min a1n 6000 ≤ a1c := by have := w1.1; omega
  have hcc0 : a0c ≤ 9223372036854775807 := by have := w0.2.1; unfold maxLen at this; omega
  have hcc1 : a1c ≤ 9223372036854775807 := by have := w1.2.1; unfold maxLen at this; omega
  have hn520 : min a0n 520 ≤ 520 := by omega
  have hm6 : min a1n 6000 ≤ 6000 := by omega
  have h2a : 0 ≤ a2 ∧ a2 ≤ 65535 := by simpa [Lit.wf, IntKind.min, IntKind.max, IntKind.signed, IntKind.bits] using w2
  have h3a : 0 ≤ a3 ∧ a3 ≤ 255 := by simpa [Lit.wf, IntKind.min, IntKind.max, IntKind.signed, IntKind.bits] using w3
  obtain ⟨h20, h21⟩ := h2a
  generalize min a0n 520 = n at *
  generalize min a1n 6000 = m at *
  clear w0 w1 w2 w3
  have HF0 := Lib.hid hf0
  have HF1 := Lib.hid hf1
  have HL := Lib.hid hL
  have HB := Lib.hid hB
  have HLL := Lib.hid hLl
  have HBL := Lib.hid hBl
  have H3 := Lib.hid h3a
  clear hf0 hf1 hL hB hLl hBl h3a
  go_enter Try.func4, Try.ntmps4
  go_wp2_with fail
  refine (HF0.out _).mono ?_
  rintro e w2 ⟨rfl, g2⟩
  go_wp2_with fail
  refine (HF1.out _).mono ?_
  rintro e w3 ⟨rfl, g3⟩
  have G3 := Lib.hid (g_trans g2 g3)
  clear g2 g3
  have HE := Lib.hid (pencode_any a0 n a0c L w3 (HL.out.keep G3.out) HLL.out)
  go_wp2_with fail
  refine HE.out.mono ?_
  intro e w4 he
  have hcut : ∃ (v : Value) (er : Int), e = .returned (.tuple #[v, .int .i64 er]) ∧ w3.grownBy w4 none ∧ ((er = 0 ∧ L.length ≤ 512 ∧ okL L = true ∧ w4.ownsRow w3.heap.size 5 1 v (full L).length (byV (full L))) ∨ (er ≠ 0)) := by
    rcases he with ⟨g4, ⟨h, rfl⟩ | ⟨_, _, rfl⟩ | ⟨h1, h2, v, rfl, how⟩⟩
    · exact ⟨_, _, rfl, g4, .inr (by decide)⟩
    · exact ⟨_, _, rfl, g4, .inr (by decide)⟩
    · exact ⟨_, _, rfl, g4, .inl ⟨rfl, h1, h2, how⟩⟩
  obtain ⟨v, er, rfl, g4, hcase⟩ := hcut
  have G4 := Lib.hid (g_trans G3.out g4)
  have HG4 := Lib.hid g4
  have HC := Lib.hid hcase
  clear he hcase g4 HE
  go_upto_if 29 with fail
  go_cut [9] (fun s9 wx => w.grownBy wx none)
  case first =>
    rcases HC.out with ⟨rfl, hL5, hok, how⟩ | her
    · have hF7 := full_len L
      have hfl := flatB_len L
      have hFL : (full L).length ≤ 20000 := by omega
      have hF7' : 7 ≤ (full L).length := by omega
      obtain ⟨g, cc, rfl, hgb, hgl, hcc1', hcc2', _, hbr, hfz⟩ := own_slice2 how (by omega) (full_bytes hok hL5)
      have HBR := Lib.hid hbr
      have HFZ := Lib.hid hfz
      have HOK := Lib.hid (And.intro hL5 hok)
      have hgw : w.heap.size ≤ g := by have := G3.out.size; omega
      obtain ⟨F, hF⟩ : ∃ F, (full L).length = F := ⟨_, rfl⟩
      have HFE := Lib.hid hF
      rw [hF] at hFL hF7' hcc1'
      have HD := Lib.hid (pdecode_any (some ⟨g, 0, none⟩) F cc (full L) w4 HBR.out hF (by omega) hcc1' hcc2')
      rw [hF]
      clear how hbr hfz hok hF7 hfl hF HC
      go_wp2_with fail
      refine HD.out.mono ?_
      rintro e w5 ⟨g5, ⟨p, hp, v2, rfl, how2⟩ | ⟨hno, _⟩⟩
      rotate_left
      · exact absurd ⟨L, HOK.out.1, HOK.out.2, rfl⟩ hno
      obtain rfl : p = L := isB_uniq hp ⟨HOK.out.1, HOK.out.2, rfl⟩
      rw [HLL.out] at how2
      obtain ⟨ao, c2, rfl, hc21, hc22, hir⟩ := own_irow HLL.out how2
      have HS := Lib.hid (rsame_any a0 ao n a0c n c2 p p w5 ((HL.out.keep G4.out).keep g5) hir HLL.out HLL.out (by omega))
      rw [eqL_self] at HS
      have G5 := Lib.hid (g_trans G4.out g5)
      have HG5 := Lib.hid g5
      clear hp how2 hir g5 HD
      have h7i : ¬ (F : Int) < 7 := by omega
      by_cases h30 : a3 = 0
      · subst h30
        go_wp2_with fail
        refine HS.out.mono ?_
        rintro e w6 ⟨rfl, g6⟩
        go_wp2_with fail
        go_meet
        exact g_trans G5.out g6
      · have h3n : (a3 != 0) = true := by simp [h30]
        obtain ⟨f, hf⟩ : ∃ f : Nat, (F : Int) - 1 = f := ⟨F - 1, by omega⟩
        have hf6 : 6 ≤ f := by omega
        obtain ⟨i, hi⟩ : ∃ i : Nat, a2 % (f : Int) = i := ⟨(a2 % (f : Int)).toNat, by rw [Int.toNat_of_nonneg (Int.emod_nonneg _ (by omega))]⟩
        have hif : i < f := by have := Int.emod_lt_of_pos a2 (show (0 : Int) < f by omega); omega
        have hiF : (i : Int) < F := by omega
        have hiF' : i < F := by omega
        obtain ⟨x, hx⟩ : ∃ x, (full p)[i]? = some x := ⟨_, List.getElem?_eq_getElem (by rw [HFE.out]; omega)⟩
        have hx0 := (HBR.out i x hx).1
        obtain ⟨hz0, hz1, hzn⟩ := xor_turn hx0 H3.out h30
        have HX := Lib.hid hx
        have hlast : i < (full p).length - 1 := by rw [HFE.out]; omega
        obtain ⟨z, hz⟩ : ∃ z, bits .xor .u8 x a3 = z := ⟨_, rfl⟩
        rw [hz] at hz0 hz1 hzn
        have HNO := Lib.hid (turned hlast hx hx0 ⟨hz0, hz1⟩ hzn)
        have HZ := Lib.hid (And.intro hz0 hz1)
        obtain ⟨hx00, hx01⟩ := hx0
        clear hx h30 hlast hz0 hz1 hzn
        go_wp2_with fail
        refine HS.out.mono ?_
        rintro e w6 ⟨rfl, g6⟩
        have G6 := Lib.hid (g_trans G5.out g6)
        have hb6 := (HBR.out.keep HG5.out).keep g6
        obtain ⟨_, b9, off9, e9, hcx⟩ := hb6 i x HX.out
        injection e9 with e9
        injection e9 with q1 q2 q3
        subst q1 q2
        rw [Nat.zero_add] at hcx
        have hfr : w6.frozen? ⟨g, i, none⟩ = false := (fz_keep g6 (by have := HG5.out.size; omega)).trans ((fz_keep HG5.out hgl).trans (HFZ.out i))
        have hb7 := brow_set hb6 HX.out HZ.out
        have HB7 := Lib.hid hb7
        have GS := Lib.hid (g_in G6.out (g_set (g_refl w6 (some g)) (p := ⟨g, i, none⟩) (.inl rfl) (.int .u8 z)) hgw)
        have HD := Lib.hid (pdecode_any (some ⟨g, 0, none⟩) F cc ((full p).set i z) _ HB7.out (by rw [List.length_set, HFE.out]) (by omega) hcc1' hcc2')
        clear hb6 hb7 g6 HS
        go_wp2_with fail
        refine HD.out.mono ?_
        rintro e w8 ⟨g8, ⟨p', hp', _⟩ | ⟨_, rfl⟩⟩
        · exact absurd ⟨p', hp'⟩ HNO.out
        rw [if_neg (by rw [List.length_set, HFE.out]; omega)]
        go_wp2_with fail
        go_meet
        exact g_trans GS.out g8
    · have he0 : (er == 0) = false := by simp [her]
      clear HC her
      go_wp2_with fail
      go_meet
      exact G4.out
  case rest =>
    have GW := Lib.hid hcut
    clear hcut
    rename World => wb
    have HD := Lib.hid (pdecode_any a1 m a1c B wb (HB.out.keep GW.out) HBL.out (by omega) hc1 hcc1)
    go_wp2_with fail
    refine HD.out.mono ?_
    rintro e w5 ⟨g5, ⟨p, hp, v2, rfl, how2⟩ | ⟨hno, rfl⟩⟩
    · obtain ⟨ao, c2, rfl, hc21, hc22, hir⟩ := own_irow rfl how2
      have HP := Lib.hid hp
      have G5 := Lib.hid (g_trans GW.out g5)
      have HE := Lib.hid (pencode_any ao p.length c2 p w5 hir rfl)
      clear hp how2 hir g5
      go_wp2_with fail
      refine HE.out.mono ?_
      rintro e w6 ⟨g6, ⟨h, _⟩ | ⟨_, h, _⟩ | ⟨_, _, v3, rfl, how⟩⟩
      · exact absurd h (by have := HP.out.1; omega)
      · rw [HP.out.2.1] at h; cases h
      have hF7 := full_len p
      obtain ⟨g, cc, rfl, hgb, hgl, hcc1', hcc2', _, hbr, _⟩ := own_slice2 how (by omega) (full_bytes HP.out.2.1 HP.out.1)
      have s1 := str_row (c := cc) hbr rfl
      have G6 := Lib.hid (g_trans G5.out g6)
      have s2 := str_row (c := a1c) (HB.out.keep G6.out) HBL.out
      rw [← HP.out.2.2, HBL.out] at s1
      generalize strOfNums B = S at *
      have e1 := tl_self S
      rw [← HP.out.2.2, HBL.out]
      clear how hbr g6 hF7
      go_wp2_with fail
      refine (awake_any _).mono ?_
      rintro e w7 ⟨rfl, g7⟩
      go_wp2_with fail
      go_ret
      exact ⟨rfl, below_gn (Below.refl _ _) (g_trans G6.out g7) (Nat.le_refl _)⟩
    · have her : ((if B.length < 7 then 6 else 110 : Int) != 0) = true := by split <;> decide
      generalize (if B.length < 7 then 6 else 110 : Int) = er2 at *
      clear hno
      go_wp2_with fail
      refine (awake_any _).mono ?_
      rintro e w7 ⟨rfl, g7⟩
      go_wp2_with fail
      go_ret
      exact ⟨rfl, below_gn (Below.refl _ _) (g_trans (g_trans GW.out g5) g7) (Nat.le_refl _)⟩
end Go.Proofs.Ytmckaimgeflncaa
