/- The law InstrBytes. -/
import Derived.Test.YtmckaimgeflncaaZ
namespace Go.Proofs.Ytmckaimgeflncaa
open Go.RowKit
set_option linter.unusedVariables false

set_option linter.unusedSimpArgs false

/-- bytes and an error are told -/
def EncP (f : Nat) (k A B C : Int) (E : List Int) (er : Int) : Prop := ∀ w, Calls Try.prog f #[.agg #[.int .i64 k, .int .i64 A, .int .i64 B, .int .i64 C]] w fun e w' =>
  ∃ ao n c, e = .returned (.tuple #[.slice ao n c, .int .i64 er]) ∧ BRow w' ao E ∧ E.length = n ∧ w.grownBy w' none
def DecP (f : Nat) (ao : Option Addr) (n c : Nat) (L : List Int) (k A B C er : Int) (M : List Int) : Prop := ∀ w, BRow w ao L → Calls Try.prog f #[.slice ao n c] w fun e w' =>
  ∃ a m cc, e = .returned (.tuple #[.agg #[.int .i64 k, .int .i64 A, .int .i64 B, .int .i64 C], .slice a m cc, .int .i64 er]) ∧ BRow w' a M ∧ M.length = m ∧ w.grownBy w' none

theorem brow_nil (w : World) : BRow w none [] := fun i x h => by cases h

set_option maxHeartbeats 800000 in
theorem rencode_core (k A B C : Int) (hc : ∀ w, Calls Try.prog 28 #[.agg #[.int .i64 k, .int .i64 A, .int .i64 B, .int .i64 C]] w fun e w' => e = .returned (.bool false) ∧ w.grownBy w' none) (w : World) :
    Calls Try.prog 22 #[.agg #[.int .i64 k, .int .i64 A, .int .i64 B, .int .i64 C]] w fun e w' => e = .returned (.tuple #[.slice none 0 0, .int .i64 100]) ∧ w.grownBy w' none := by
  have g0 := g_alloc (g_refl w none) (.cells #[.int .i64 k, .int .i64 A, .int .i64 B, .int .i64 C] 43)
  go_enter Try.func22, Try.ntmps22
  go_wp2_with fail
  refine (hc _).mono ?_
  rintro e w1 ⟨rfl, g1⟩
  go_wp2_with fail
  go_ret2
  exact ⟨rfl, g_trans g0 g1⟩

theorem both_enc (k A B C : Int) : ∃ (E : List Int) (er : Int), EncP 20 k A B C E er ∧ EncP 22 k A B C E er := by
  rcases kind_cases k with ⟨n, rfl, h1, h2⟩ | h
  · cases hok : okI n A B C
    · refine ⟨[], 100, fun w => ?_, fun w => ?_⟩
      · exact (encode_no n h1 h2 A B C hok w).mono (fun e w' ⟨he, hg⟩ => ⟨_, _, _, he, brow_nil _, rfl, hg⟩)
      · exact (rencode_core n A B C (fun w => by have := is_ok n h1 h2 A B C w; rw [hok] at this; exact this) w).mono (fun e w' ⟨he, hg⟩ => ⟨_, _, _, he, brow_nil _, rfl, hg⟩)
    · refine ⟨encK n (sA n) (sB n) (sC n) A B C 3, 0, fun w => ?_, fun w => ?_⟩
      · refine (encode_ok n h1 h2 A B C w hok).mono ?_
        rintro e w' ⟨v, rfl, how, hg⟩
        obtain ⟨ao, c, rfl, hb, hl, _⟩ := brow_own how (enc_bytes h1 h2 _ _ _ _ _ _)
        exact ⟨_, _, _, rfl, hb, hl, hg⟩
      · refine (rencode_ok n h1 h2 A B C w hok).mono ?_
        rintro e w' ⟨v, rfl, how, hg⟩
        obtain ⟨ao, c, rfl, hb, hl, _⟩ := brow_own how (enc_bytes h1 h2 _ _ _ _ _ _)
        exact ⟨_, _, _, rfl, hb, hl, hg⟩
  · refine ⟨[], 100, fun w => ?_, fun w => ?_⟩
    · exact (encode_bad k h A B C w).mono (fun e w' ⟨he, hg⟩ => ⟨_, _, _, he, brow_nil _, rfl, hg⟩)
    · exact (rencode_core k A B C (is_bad k h A B C) w).mono (fun e w' ⟨he, hg⟩ => ⟨_, _, _, he, brow_nil _, rfl, hg⟩)

theorem both_dec (ao : Option Addr) (n c : Nat) (L : List Int) (w0 : World) (h0 : BRow w0 ao L) (hn : L.length = n) (hn4 : n < 100000) (hnc : n ≤ c) (hcm : c ≤ 9223372036854775807) :
    ∃ (k A B C er : Int) (M : List Int), DecP 23 ao n c L k A B C er M ∧ DecP 24 ao n c L k A B C er M := by
  cases hx : L[0]? with
  | none =>
    have hL : L = [] := by cases L with | nil => rfl | cons a t => simp at hx
    subst hL
    obtain rfl : n = 0 := hn.symm
    refine ⟨0, 0, 0, 0, 6, [], fun w _ => ?_, fun w _ => ?_⟩
    · exact (decode_none ao c w).mono (fun e w' ⟨he, hg⟩ => ⟨_, _, _, he, brow_nil _, rfl, hg⟩)
    · exact (rdecode_none ao c w).mono (fun e w' ⟨he, hg⟩ => ⟨_, _, _, he, brow_nil _, rfl, hg⟩)
  | some x =>
    have hn0 : 0 < n := by rw [← hn]; exact (List.getElem?_eq_some_iff.1 hx).1
    obtain ⟨⟨x0, x1⟩, b, off, rfl, _⟩ := h0 0 x hx
    rcases kind_cases x with ⟨k, rfl, h1, h2⟩ | h
    · by_cases hs : n < alN (sA k) (sB k) (sC k) 3
      · refine ⟨0, 0, 0, 0, 6, [], fun w hw => ?_, fun w hw => ?_⟩
        · refine (decode_k _ n c L w hw hn k h1 h2 hx hn4 hnc hcm).mono ?_
          rintro e w' ⟨hg, ⟨_, rfl⟩ | ⟨hh, _⟩ | ⟨hh, _⟩⟩
          · exact ⟨_, _, _, rfl, brow_nil _, rfl, hg⟩
          · omega
          · omega
        · refine (rdecode_k _ n c L w hw hn k h1 h2 hx hnc hcm).mono ?_
          rintro e w' ⟨hg, ⟨_, rfl⟩ | ⟨hh, _⟩ | ⟨hh, _⟩⟩
          · exact ⟨_, _, _, rfl, brow_nil _, rfl, hg⟩
          · omega
          · omega
      · cases hok : okI k (hv (sA k) (sB k) (sC k) L 0) (hv (sA k) (sB k) (sC k) L 1) (hv (sA k) (sB k) (sC k) L 2)
        · refine ⟨0, 0, 0, 0, 100, [], fun w hw => ?_, fun w hw => ?_⟩
          · refine (decode_k _ n c L w hw hn k h1 h2 hx hn4 hnc hcm).mono ?_
            rintro e w' ⟨hg, ⟨hh, _⟩ | ⟨_, _, rfl⟩ | ⟨_, hh, _⟩⟩
            · omega
            · exact ⟨_, _, _, rfl, brow_nil _, rfl, hg⟩
            · rw [hok] at hh; cases hh
          · refine (rdecode_k _ n c L w hw hn k h1 h2 hx hnc hcm).mono ?_
            rintro e w' ⟨hg, ⟨hh, _⟩ | ⟨_, _, rfl⟩ | ⟨_, hh, _⟩⟩
            · omega
            · exact ⟨_, _, _, rfl, brow_nil _, rfl, hg⟩
            · rw [hok] at hh; cases hh
        · have hbytes : ∀ y ∈ L.drop (alN (sA k) (sB k) (sC k) 3), 0 ≤ y ∧ y ≤ 255 := fun y hy => by
            obtain ⟨i, hi⟩ := List.getElem?_of_mem (List.mem_of_mem_drop hy)
            exact (h0 i y hi).1
          have hlen : (L.drop (alN (sA k) (sB k) (sC k) 3)).length = n - alN (sA k) (sB k) (sC k) 3 := by rw [List.length_drop, hn]
          refine ⟨k, hv (sA k) (sB k) (sC k) L 0, hv (sA k) (sB k) (sC k) L 1, hv (sA k) (sB k) (sC k) L 2, 0, L.drop (alN (sA k) (sB k) (sC k) 3), fun w hw => ?_, fun w hw => ?_⟩
          · refine (decode_k _ n c L w hw hn k h1 h2 hx hn4 hnc hcm).mono ?_
            rintro e w' ⟨hg, ⟨hh, _⟩ | ⟨_, hh, _⟩ | ⟨_, _, v, rfl, how⟩⟩
            · omega
            · rw [hok] at hh; cases hh
            · obtain ⟨a, cc, rfl, hb, hl, _⟩ := brow_own how hbytes
              exact ⟨_, _, _, rfl, hb, hl, hg⟩
          · refine (rdecode_k _ n c L w hw hn k h1 h2 hx hnc hcm).mono ?_
            rintro e w' ⟨hg, ⟨hh, _⟩ | ⟨_, hh, _⟩ | ⟨_, _, a, cc, rfl, hb⟩⟩
            · omega
            · rw [hok] at hh; cases hh
            · exact ⟨_, _, _, rfl, hb, hlen, hg⟩
    · refine ⟨0, 0, 0, 0, 100, [], fun w hw => ?_, fun w hw => ?_⟩
      · obtain ⟨_, b', off', he, hc⟩ := hw 0 x hx
        cases he
        exact (decode_badk b off n c x w hn0 hn4 hc h x0 x1).mono (fun e w' ⟨he, hg⟩ => ⟨_, _, _, he, brow_nil _, rfl, hg⟩)
      · obtain ⟨_, b', off', he, hc⟩ := hw 0 x hx
        cases he
        exact (rdecode_badk b off n c x w hn0 hc h x0 x1 (by omega)).mono (fun e w' ⟨he, hg⟩ => ⟨_, _, _, he, brow_nil _, rfl, hg⟩)

end Go.Proofs.Ytmckaimgeflncaa

