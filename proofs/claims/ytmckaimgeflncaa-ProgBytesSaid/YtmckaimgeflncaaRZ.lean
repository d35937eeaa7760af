/- The law ProgBytes. -/
import Derived.Test.YtmckaimgeflncaaRD
namespace Go.Proofs.Ytmckaimgeflncaa
open Go.RowKit
set_option linter.unusedVariables false
set_option linter.unusedSimpArgs false

def EncU (f : Nat) (L : List I4) (n : Nat) (Y : List Int) (er : Int) : Prop := ∀ ao c w, IRow w ao L → Calls Try.prog f #[.slice ao n c] w fun e w' =>
  ∃ a k c', e = .returned (.tuple #[.slice a k c', .int .i64 er]) ∧ BRow w' a Y ∧ Y.length = k ∧ w.grownBy w' none
def DecU (f : Nat) (B : List Int) (n : Nat) (R : List I4) (er : Int) : Prop := ∀ ao c w, BRow w ao B → n ≤ c → c ≤ 9223372036854775807 → Calls Try.prog f #[.slice ao n c] w fun e w' =>
  ∃ a k c', e = .returned (.tuple #[.slice a k c', .int .i64 er]) ∧ IRow w' a R ∧ R.length = k ∧ k ≤ 9223372036854775807 ∧ w.grownBy w' none

theorem enc_u (L : List I4) (n : Nat) (hn : L.length = n) : ∃ Y er, EncU 9 L n Y er ∧ EncU 10 L n Y er := by
  have both : ∀ (f : Nat), (∀ ao c w, IRow w ao L → Calls Try.prog f #[.slice ao n c] w fun e w' => PEnc L w w' e) →
      (512 < L.length → EncU f L n [] 3) ∧ (L.length ≤ 512 → okL L = false → EncU f L n [] 110) ∧ (L.length ≤ 512 → okL L = true → EncU f L n (full L) 0) := by
    intro f hf
    refine ⟨fun h ao c w hL => (hf ao c w hL).mono ?_, fun h1 h2 ao c w hL => (hf ao c w hL).mono ?_, fun h1 h2 ao c w hL => (hf ao c w hL).mono ?_⟩
    · rintro e w' ⟨g, ⟨_, rfl⟩ | ⟨h', _⟩ | ⟨h', _⟩⟩
      · exact ⟨_, _, _, rfl, brow_nil _, rfl, g⟩
      · omega
      · omega
    · rintro e w' ⟨g, ⟨h', _⟩ | ⟨_, _, rfl⟩ | ⟨_, h', _⟩⟩
      · omega
      · exact ⟨_, _, _, rfl, brow_nil _, rfl, g⟩
      · rw [h2] at h'; cases h'
    · rintro e w' ⟨g, ⟨h', _⟩ | ⟨_, h', _⟩ | ⟨_, _, v, rfl, how⟩⟩
      · omega
      · rw [h2] at h'; cases h'
      · obtain ⟨gv, c, rfl, _, _, _, _, _, hbr, _⟩ := own_slice2 how (by rw [full_len]; omega) (full_bytes h2 h1)
        exact ⟨_, _, _, rfl, hbr, rfl, g⟩
  obtain ⟨a1, a2, a3⟩ := both 9 (fun ao c w hL => pencode_any ao n c L w hL hn)
  obtain ⟨b1, b2, b3⟩ := both 10 (fun ao c w hL => rpencode_any ao n c L w hL hn)
  by_cases ht : 512 < L.length
  · exact ⟨_, _, a1 ht, b1 ht⟩
  · cases ho : okL L
    · exact ⟨_, _, a2 (by omega) ho, b2 (by omega) ho⟩
    · exact ⟨_, _, a3 (by omega) ho, b3 (by omega) ho⟩

theorem dec_u (B : List Int) (n : Nat) (hn : B.length = n) (h4 : n < 100000) : ∃ R er, DecU 11 B n R er ∧ DecU 12 B n R er := by
  have both : ∀ (f : Nat), (∀ ao c w, BRow w ao B → n ≤ c → c ≤ 9223372036854775807 → Calls Try.prog f #[.slice ao n c] w fun e w' => PDec B w w' e) →
      (∀ p, IsB B p → DecU f B n p 0) ∧ ((¬ ∃ p, IsB B p) → DecU f B n [] (if B.length < 7 then 6 else 110)) := by
    intro f hf
    refine ⟨fun p hp ao c w hB h1 h2 => (hf ao c w hB h1 h2).mono ?_, fun hno ao c w hB h1 h2 => (hf ao c w hB h1 h2).mono ?_⟩
    · rintro e w' ⟨g, ⟨q, hq, v, rfl, how⟩ | ⟨hno, _⟩⟩
      · obtain rfl := isB_uniq hp hq
        obtain ⟨ao, c, rfl, q1, q2, hir⟩ := own_irow rfl how
        exact ⟨_, _, _, rfl, hir, rfl, Nat.le_trans q1 q2, g⟩
      · exact absurd ⟨p, hp⟩ hno
    · rintro e w' ⟨g, ⟨q, hq, _⟩ | ⟨_, rfl⟩⟩
      · exact absurd ⟨q, hq⟩ hno
      · exact ⟨_, _, _, rfl, irow_nil' _ _, rfl, Nat.zero_le _, g⟩
  obtain ⟨a1, a2⟩ := both 11 (fun ao c w hB h1 h2 => pdecode_any ao n c B w hB hn h4 h1 h2)
  obtain ⟨b1, b2⟩ := both 12 (fun ao c w hB h1 h2 => rpdecode_any ao n c B w hB hn h4 h1 h2)
  by_cases h : ∃ p, IsB B p
  · obtain ⟨p, hp⟩ := h
    exact ⟨_, _, a1 p hp, b1 p hp⟩
  · exact ⟨_, _, a2 h, b2 h⟩

set_option maxRecDepth 100000 in
set_option maxHeartbeats 6400000 in
theorem walk_ProgBytes (a0 : Option Addr) (a0n a0c : Nat) (a1 : Option Addr) (a1n a1c : Nat) (w : World) (w0 : Vec w a0 a0n a0c 4 (Q42)) (w1 : Vec w a1 a1n a1c 1 (Q5)) :
    Calls Try.prog 3 #[.slice a0 a0n a0c, .slice a1 a1n a1c] w fun e w' => e = .returned (.bool true) ∧ Below w.heap.size w w' := by
  obtain ⟨L, hLl, hL⟩ := vec_instrs w0 (min a0n 520) (by omega)
  obtain ⟨B, hBl, hB⟩ := vec_bytes w1 (min a1n 6000) (by omega)
  have hf0 := fun w => few_any a0 a0n a0c w w0.1 (by have := w0.2.1; unfold maxLen at this; omega)
  have hf1 := fun w => cut_any a1 a1n a1c w w1.1 (by have := w1.2.1; unfold maxLen at this; omega)
  have hc1 : min a1n 6000 ≤ a1c := by have := w1.1; omega
  have hcc1 : a1c ≤ 9223372036854775807 := by have := w1.2.1; unfold maxLen at this; omega
  have hm6 : min a1n 6000 ≤ 6000 := by omega
  generalize min a0n 520 = n at *
  generalize min a1n 6000 = m at *
  clear w0 w1
  obtain ⟨Y, ey, u1, u2⟩ := enc_u L n hLl
  obtain ⟨R, er, d1, d2⟩ := dec_u B m hBl (by omega)
  have HF0 := Lib.hid hf0
  have HF1 := Lib.hid hf1
  have HL := Lib.hid hL
  have HB := Lib.hid hB
  have HU1 := Lib.hid u1
  have HU2 := Lib.hid u2
  have HD1 := Lib.hid d1
  have HD2 := Lib.hid d2
  have e1 : (ey == ey) = true := by simp
  have e2 : (er == er) = true := by simp
  clear hf0 hf1 hL hB hLl hBl u1 u2 d1 d2
  go_enter Try.func3, Try.ntmps3
  go_wp2_with fail
  refine (HF0.out _).mono ?_
  rintro e w1 ⟨rfl, g1⟩
  go_wp2_with fail
  refine (HF1.out _).mono ?_
  rintro e w2 ⟨rfl, g2⟩
  have G2 := Lib.hid (g_trans g1 g2)
  have HC1 := Lib.hid (HU1.out a0 a0c _ (HL.out.keep G2.out))
  clear g1 g2
  go_wp2_with fail
  refine HC1.out.mono ?_
  rintro e w3 ⟨xa, xn, xc, rfl, hx, hxl, g3⟩
  have G3 := Lib.hid (g_trans G2.out g3)
  have HX := Lib.hid (And.intro hx hxl)
  have HC2 := Lib.hid (HU2.out a0 a0c _ (HL.out.keep G3.out))
  clear hx hxl g3
  go_wp2_with fail
  refine HC2.out.mono ?_
  rintro e w4 ⟨ya, yn, yc, rfl, hy, hyl, g4⟩
  have G4 := Lib.hid (g_trans G3.out g4)
  have HX := Lib.hid (And.intro (HX.out.1.keep g4) HX.out.2)
  have HY := Lib.hid (And.intro hy hyl)
  have HC3 := Lib.hid (HD1.out a1 a1c _ (HB.out.keep G4.out) hc1 hcc1)
  clear hy hyl g4
  go_wp2_with fail
  refine HC3.out.mono ?_
  rintro e w5 ⟨ua, un, uc, rfl, hu, hul, hult, g5⟩
  have G5 := Lib.hid (g_trans G4.out g5)
  have HX := Lib.hid (And.intro (HX.out.1.keep g5) HX.out.2)
  have HY := Lib.hid (And.intro (HY.out.1.keep g5) HY.out.2)
  have HU := Lib.hid (And.intro hu hul)
  have HC4 := Lib.hid (HD2.out a1 a1c _ (HB.out.keep G5.out) hc1 hcc1)
  clear hu hul g5
  go_wp2_with fail
  refine HC4.out.mono ?_
  rintro e w6 ⟨va, vn, vc, rfl, hv, hvl, hvlt, g6⟩
  have G6 := Lib.hid (g_trans G5.out g6)
  have s1 := str_row (c := xc) (HX.out.1.keep g6) HX.out.2
  have s2 := str_row (c := yc) (HY.out.1.keep g6) HY.out.2
  have HS := Lib.hid (rsame_any ua va un uc vn vc R R w6 (HU.out.1.keep g6) hv HU.out.2 hvl hult)
  rw [eqL_self] at HS
  generalize strOfNums Y = S at *
  have e3 := tl_self S
  clear hv hvl g6
  go_wp2_with fail
  refine HS.out.mono ?_
  rintro e w7 ⟨rfl, g7⟩
  go_wp2_with fail
  refine (awake_any _).mono ?_
  rintro e w8 ⟨rfl, g8⟩
  go_wp2_with fail
  go_ret
  exact ⟨rfl, below_gn (Below.refl _ _) (g_trans (g_trans G6.out g7) g8) (Nat.le_refl _)⟩
end Go.Proofs.Ytmckaimgeflncaa
