/- The law InstrBytes. -/
import Derived.Test.YtcjeiafhcpgaoaaZ
namespace Go.Proofs.Ytcjeiafhcpgaoaa
open Go.RowKit
set_option linter.unusedVariables false
set_option linter.unusedSimpArgs false

/-- bytes and an error are told -/
def EncP (f : Nat) (k A B C : Int) (E : List Int) (er : Int) : Prop := ∀ w, Calls Try.prog f #[.agg #[.int .i64 k, .int .i64 A, .int .i64 B, .int .i64 C]] w fun e w' =>
  ∃ ao n c, e = .returned (.tuple #[.slice ao n c, .int .i64 er]) ∧ BRow w' ao E ∧ E.length = n ∧ w.grownBy w' none
def DecP (f : Nat) (ao : Option Addr) (n c : Nat) (L : List Int) (k A B C er : Int) (M : List Int) : Prop := ∀ w, BRow w ao L → Calls Try.prog f #[.slice ao n c] w fun e w' =>
  ∃ a m cc, e = .returned (.tuple #[.agg #[.int .i64 k, .int .i64 A, .int .i64 B, .int .i64 C], .slice a m cc, .int .i64 er]) ∧ BRow w' a M ∧ M.length = m ∧ w.grownBy w' none

theorem brow_nil (w : World) : BRow w none [] := fun i x h => by cases h

set_option maxHeartbeats 800000 in
theorem rencode_core (k A B C : Int) (hc : ∀ w, Calls Try.prog 30 #[.agg #[.int .i64 k, .int .i64 A, .int .i64 B, .int .i64 C]] w fun e w' => e = .returned (.bool false) ∧ w.grownBy w' none) (w : World) :
    Calls Try.prog 10 #[.agg #[.int .i64 k, .int .i64 A, .int .i64 B, .int .i64 C]] w fun e w' => e = .returned (.tuple #[.slice none 0 0, .int .i64 100]) ∧ w.grownBy w' none := by
  have g0 := g_alloc (g_refl w none) (.cells #[.int .i64 k, .int .i64 A, .int .i64 B, .int .i64 C] 24)
  go_enter Try.func10, Try.ntmps10
  go_wp2_with fail
  refine (hc _).mono ?_
  rintro e w1 ⟨rfl, g1⟩
  go_wp2_with fail
  go_ret2
  exact ⟨rfl, g_trans g0 g1⟩

theorem both_enc (k A B C : Int) : ∃ (E : List Int) (er : Int), EncP 9 k A B C E er ∧ EncP 10 k A B C E er := by
  rcases kind_cases k with ⟨n, rfl, h1, h2⟩ | h
  · cases hok : okI n A B C
    · refine ⟨[], 100, fun w => ?_, fun w => ?_⟩
      · exact (encode_no n h1 h2 A B C hok w).mono (fun e w' ⟨he, hg⟩ => ⟨_, _, _, he, brow_nil _, rfl, hg⟩)
      · exact (rencode_core n A B C (fun w => by have := is_ok n h1 h2 A B C w; rw [hok] at this; exact this) w).mono (fun e w' ⟨he, hg⟩ => ⟨_, _, _, he, brow_nil _, rfl, hg⟩)
    · refine ⟨encK n (sA n) (sB n) (sC n) A B C 3, 0, fun w => ?_, fun w => ?_⟩
      · refine (encode_ok n h1 h2 A B C w hok).mono ?_
        rintro e w' ⟨v, rfl, how, hg⟩
        obtain ⟨ao, c, rfl, hb, hl, _⟩ := brow_own how (enc_bytes h1 h2 _ _ _ _ _ _)
        exact ⟨_, _, _, rfl, hb, hl, hg⟩
      · refine (rencode_ok n h1 h2 A B C w hok).mono ?_
        rintro e w' ⟨v, rfl, how, hg⟩
        obtain ⟨ao, c, rfl, hb, hl, _⟩ := brow_own how (enc_bytes h1 h2 _ _ _ _ _ _)
        exact ⟨_, _, _, rfl, hb, hl, hg⟩
  · refine ⟨[], 100, fun w => ?_, fun w => ?_⟩
    · exact (encode_bad k h A B C w).mono (fun e w' ⟨he, hg⟩ => ⟨_, _, _, he, brow_nil _, rfl, hg⟩)
    · exact (rencode_core k A B C (is_bad k h A B C) w).mono (fun e w' ⟨he, hg⟩ => ⟨_, _, _, he, brow_nil _, rfl, hg⟩)

theorem both_dec (ao : Option Addr) (n c : Nat) (L : List Int) (w0 : World) (h0 : BRow w0 ao L) (hn : L.length = n) (hn4 : n < 4000) (hnc : n ≤ c) (hcm : c ≤ 9223372036854775807) :
    ∃ (k A B C er : Int) (M : List Int), DecP 11 ao n c L k A B C er M ∧ DecP 12 ao n c L k A B C er M := by
  cases hx : L[0]? with
  | none =>
    have hL : L = [] := by cases L with | nil => rfl | cons a t => simp at hx
    subst hL
    obtain rfl : n = 0 := hn.symm
    refine ⟨0, 0, 0, 0, 6, [], fun w _ => ?_, fun w _ => ?_⟩
    · exact (decode_none ao c w).mono (fun e w' ⟨he, hg⟩ => ⟨_, _, _, he, brow_nil _, rfl, hg⟩)
    · exact (rdecode_none ao c w).mono (fun e w' ⟨he, hg⟩ => ⟨_, _, _, he, brow_nil _, rfl, hg⟩)
  | some x =>
    have hn0 : 0 < n := by rw [← hn]; exact (List.getElem?_eq_some_iff.1 hx).1
    obtain ⟨⟨x0, x1⟩, b, off, rfl, _⟩ := h0 0 x hx
    rcases kind_cases x with ⟨k, rfl, h1, h2⟩ | h
    · by_cases hs : n < alN (sA k) (sB k) (sC k) 3
      · refine ⟨0, 0, 0, 0, 6, [], fun w hw => ?_, fun w hw => ?_⟩
        · refine (decode_k _ n c L w hw hn k h1 h2 hx hn4 hnc hcm).mono ?_
          rintro e w' ⟨hg, ⟨_, rfl⟩ | ⟨hh, _⟩ | ⟨hh, _⟩⟩
          · exact ⟨_, _, _, rfl, brow_nil _, rfl, hg⟩
          · omega
          · omega
        · refine (rdecode_k _ n c L w hw hn k h1 h2 hx hnc hcm).mono ?_
          rintro e w' ⟨hg, ⟨_, rfl⟩ | ⟨hh, _⟩ | ⟨hh, _⟩⟩
          · exact ⟨_, _, _, rfl, brow_nil _, rfl, hg⟩
          · omega
          · omega
      · cases hok : okI k (hv (sA k) (sB k) (sC k) L 0) (hv (sA k) (sB k) (sC k) L 1) (hv (sA k) (sB k) (sC k) L 2)
        · refine ⟨0, 0, 0, 0, 100, [], fun w hw => ?_, fun w hw => ?_⟩
          · refine (decode_k _ n c L w hw hn k h1 h2 hx hn4 hnc hcm).mono ?_
            rintro e w' ⟨hg, ⟨hh, _⟩ | ⟨_, _, rfl⟩ | ⟨_, hh, _⟩⟩
            · omega
            · exact ⟨_, _, _, rfl, brow_nil _, rfl, hg⟩
            · rw [hok] at hh; cases hh
          · refine (rdecode_k _ n c L w hw hn k h1 h2 hx hnc hcm).mono ?_
            rintro e w' ⟨hg, ⟨hh, _⟩ | ⟨_, _, rfl⟩ | ⟨_, hh, _⟩⟩
            · omega
            · exact ⟨_, _, _, rfl, brow_nil _, rfl, hg⟩
            · rw [hok] at hh; cases hh
        · have hbytes : ∀ y ∈ L.drop (alN (sA k) (sB k) (sC k) 3), 0 ≤ y ∧ y ≤ 255 := fun y hy => by
            obtain ⟨i, hi⟩ := List.getElem?_of_mem (List.mem_of_mem_drop hy)
            exact (h0 i y hi).1
          have hlen : (L.drop (alN (sA k) (sB k) (sC k) 3)).length = n - alN (sA k) (sB k) (sC k) 3 := by rw [List.length_drop, hn]
          refine ⟨k, hv (sA k) (sB k) (sC k) L 0, hv (sA k) (sB k) (sC k) L 1, hv (sA k) (sB k) (sC k) L 2, 0, L.drop (alN (sA k) (sB k) (sC k) 3), fun w hw => ?_, fun w hw => ?_⟩
          · refine (decode_k _ n c L w hw hn k h1 h2 hx hn4 hnc hcm).mono ?_
            rintro e w' ⟨hg, ⟨hh, _⟩ | ⟨_, hh, _⟩ | ⟨_, _, v, rfl, how⟩⟩
            · omega
            · rw [hok] at hh; cases hh
            · obtain ⟨a, cc, rfl, hb, hl, _⟩ := brow_own how hbytes
              exact ⟨_, _, _, rfl, hb, hl, hg⟩
          · refine (rdecode_k _ n c L w hw hn k h1 h2 hx hnc hcm).mono ?_
            rintro e w' ⟨hg, ⟨hh, _⟩ | ⟨_, hh, _⟩ | ⟨_, _, a, cc, rfl, hb⟩⟩
            · omega
            · rw [hok] at hh; cases hh
            · exact ⟨_, _, _, rfl, hb, hlen, hg⟩
    · refine ⟨0, 0, 0, 0, 100, [], fun w hw => ?_, fun w hw => ?_⟩
      · obtain ⟨_, b', off', he, hc⟩ := hw 0 x hx
        cases he
        exact (decode_badk b off n c x w hn0 hn4 hc h x0 x1).mono (fun e w' ⟨he, hg⟩ => ⟨_, _, _, he, brow_nil _, rfl, hg⟩)
      · obtain ⟨_, b', off', he, hc⟩ := hw 0 x hx
        cases he
        exact (rdecode_badk b off n c x w hn0 hc h x0 x1 (by omega)).mono (fun e w' ⟨he, hg⟩ => ⟨_, _, _, he, brow_nil _, rfl, hg⟩)

set_option maxRecDepth 100000 in
set_option maxHeartbeats 3200000 in
theorem walk_InstrBytes (a0_0 : Int) (a0_1 : Int) (a0_2 : Int) (a0_3 : Int) (a1 : Option Addr) (a1n a1c : Nat) (w : World) (w0_0 : (Lit.int .i64 a0_0).wf = true) (w0_1 : (Lit.int .i64 a0_1).wf = true) (w0_2 : (Lit.int .i64 a0_2).wf = true) (w0_3 : (Lit.int .i64 a0_3).wf = true) (w1 : Vec w a1 a1n a1c 1 (Q5)) :
    Calls Try.prog 3 #[.agg #[.int .i64 a0_0, .int .i64 a0_1, .int .i64 a0_2, .int .i64 a0_3], .slice a1 a1n a1c] w fun e w' => e = .returned (.bool true) ∧ Below w.heap.size w w' := by
  clear w0_0 w0_1 w0_2 w0_3
  have hnc := w1.1
  have hcm : a1c ≤ 9223372036854775807 := by have := w1.2.1; unfold maxLen at this; omega
  obtain ⟨L, hLl, hL⟩ := vec_bytes w1 (min a1n 20) (by omega)
  obtain ⟨E, er, he1, he2⟩ := both_enc a0_0 a0_1 a0_2 a0_3
  obtain ⟨n, hn⟩ : ∃ n, min a1n 20 = n := ⟨_, rfl⟩
  rw [hn] at hLl
  have hn20 : n ≤ 20 := by omega
  have hnc' : n ≤ a1c := by omega
  have hcut := fun w => cut_any a1 a1n a1c w hnc hcm
  rw [hn] at hcut
  obtain ⟨k, A, B, C, dr, M, hd1, hd2⟩ := both_dec a1 n a1c L w hL hLl (by omega) hnc' hcm
  have HCUT := Lib.hid hcut
  have HE1 := Lib.hid he1
  have HE2 := Lib.hid he2
  have HD1 := Lib.hid hd1
  have HD2 := Lib.hid hd2
  have HL := Lib.hid hL
  have g0 := g_alloc (g_refl w none) (.cells #[.int .i64 a0_0, .int .i64 a0_1, .int .i64 a0_2, .int .i64 a0_3] 24)
  have HB := Lib.hid (Blk.new w #[.int .i64 a0_0, .int .i64 a0_1, .int .i64 a0_2, .int .i64 a0_3] 24)
  have e1 := tl_self (strOfNums E)
  have e2 := tl_self (strOfNums M)
  have e3 : (er == er) = true := by simp
  have e4 : (dr == dr) = true := by simp
  clear hL hLl hn w1 hcut hnc he1 he2 hd1 hd2
  go_enter Try.func3, Try.ntmps3
  go_wp2_with fail
  refine (HCUT.out _).mono ?_
  rintro e w2 ⟨rfl, hg2⟩
  have gA := g_trans g0 hg2
  have b2 := HB.out.keepn hg2
  have c0 := b2.cell 0 (.int .i64 a0_0) rfl
  have c1 := b2.cell 1 (.int .i64 a0_1) rfl
  have c2 := b2.cell 2 (.int .i64 a0_2) rfl
  have c3 := b2.cell 3 (.int .i64 a0_3) rfl
  go_wp2_with fail
  refine (HE1.out _).mono ?_
  rintro e w3 ⟨xa, xn, xc, rfl, hx, hxn, hg3⟩
  have gB := g_trans gA hg3
  have b3 := b2.keepn hg3
  clear c0 c1 c2 c3
  have c0 := b3.cell 0 (.int .i64 a0_0) rfl
  have c1 := b3.cell 1 (.int .i64 a0_1) rfl
  have c2 := b3.cell 2 (.int .i64 a0_2) rfl
  have c3 := b3.cell 3 (.int .i64 a0_3) rfl
  have HX := Lib.hid (And.intro hx hxn)
  clear hx hxn
  go_wp2_with fail
  refine (HE2.out _).mono ?_
  rintro e w4 ⟨ya, yn, yc, rfl, hy, hyn, hg4⟩
  have gC := Lib.hid (g_trans gB hg4)
  have HX := Lib.hid (And.intro (HX.out.1.keep hg4) HX.out.2)
  have HY := Lib.hid (And.intro hy hyn)
  clear hy hyn c0 c1 c2 c3 b2 b3 HB gA gB hg2 hg3 hg4 g0
  go_wp2_with fail
  refine (HD1.out _ (HL.out.keep gC.out)).mono ?_
  rintro e w5 ⟨ua, un, uc, rfl, hu, hun, hg5⟩
  have g5 := g_trans hg5 (g_alloc (g_refl w5 none) (.cells #[.int .i64 k, .int .i64 A, .int .i64 B, .int .i64 C] 24))
  have UB := Lib.hid (Blk.new w5 #[.int .i64 k, .int .i64 A, .int .i64 B, .int .i64 C] 24)
  have gD := Lib.hid (g_trans gC.out g5)
  have HX := Lib.hid (And.intro (HX.out.1.keep g5) HX.out.2)
  have HY := Lib.hid (And.intro (HY.out.1.keep g5) HY.out.2)
  have HU := Lib.hid (And.intro (hu.keep (g_alloc (g_refl w5 none) (.cells #[.int .i64 k, .int .i64 A, .int .i64 B, .int .i64 C] 24))) hun)
  clear hu hun g5 hg5
  go_wp2_with fail
  refine (HD2.out _ (HL.out.keep gD.out)).mono ?_
  rintro e w6 ⟨va, vn, vc, rfl, hv, hvn, hg6⟩
  have g7 := g_alloc (g_refl w6 none) (.cells #[.int .i64 k, .int .i64 A, .int .i64 B, .int .i64 C] 24)
  have g6 := g_trans hg6 g7
  have VB := Lib.hid (Blk.new w6 #[.int .i64 k, .int .i64 A, .int .i64 B, .int .i64 C] 24)
  have UB := Lib.hid (UB.out.keepn g6)
  have gE := Lib.hid (g_trans gD.out g6)
  have HX := Lib.hid (And.intro (HX.out.1.keep g6) HX.out.2)
  have HY := Lib.hid (And.intro (HY.out.1.keep g6) HY.out.2)
  have HU := Lib.hid (And.intro (HU.out.1.keep g6) HU.out.2)
  have HV := Lib.hid (And.intro (hv.keep g7) hvn)
  clear hv hvn g6 g7 hg6
  go_upto_region 6 with fail
  generalize (w6.alloc (.cells #[.int .i64 k, .int .i64 A, .int .i64 B, .int .i64 C] 24)) = W at *
  have sx := str_row (c := xc) HX.out.1 HX.out.2
  have sy := str_row (c := yc) HY.out.1 HY.out.2
  have su := str_row (c := uc) HU.out.1 HU.out.2
  have sv := str_row (c := vc) HV.out.1 HV.out.2
  generalize strOfNums E = S1 at *
  generalize strOfNums M = S2 at *
  have u0 := UB.out.cell 0 (.int .i64 k) rfl
  have u1 := UB.out.cell 1 (.int .i64 A) rfl
  have u2 := UB.out.cell 2 (.int .i64 B) rfl
  have u3 := UB.out.cell 3 (.int .i64 C) rfl
  have v0 := VB.out.cell 0 (.int .i64 k) rfl
  have v1 := VB.out.cell 1 (.int .i64 A) rfl
  have v2 := VB.out.cell 2 (.int .i64 B) rfl
  have v3 := VB.out.cell 3 (.int .i64 C) rfl
  go_wp2_with fail
  refine (awake_any _).mono ?_
  rintro e w9 ⟨rfl, g9⟩
  go_wp2_with fail
  go_ret
  exact ⟨rfl, below_gn (Below.refl _ _) (g_trans gE.out g9) (Nat.le_refl _)⟩
end Go.Proofs.Ytcjeiafhcpgaoaa
