/- The document's Decode of one instruction: the rest stands where the row stands. -/
import Derived.Test.YtmckaimgeflncaaZB
import Derived.Test.YtmckaimgeflncaaRE
namespace Go.Proofs.Ytmckaimgeflncaa
open Go.RowKit
set_option linter.unusedVariables false
set_option linter.unusedSimpArgs false

def RDecX (ao : Option Addr) (R : List Int) (w w' : World) (e : Ending) : Prop :=
  w.grownBy w' none ∧ (((¬ ∃ x S, okx x = true ∧ R = encx x ++ S) ∧ ∃ r : Int, r ≠ 0 ∧ e = .returned (.tuple #[.agg #[.int .i64 0, .int .i64 0, .int .i64 0, .int .i64 0], .slice none 0 0, .int .i64 r]))
    ∨ (∃ x S, okx x = true ∧ R = encx x ++ S ∧ ∃ a m cc, e = .returned (.tuple #[.agg #[.int .i64 x.k, .int .i64 x.a, .int .i64 x.b, .int .i64 x.c], .slice a m cc, .int .i64 0]) ∧ (∀ w0, BRow w0 ao R → BRow w0 a S) ∧ S.length = m ∧ m ≤ cc ∧ cc ≤ 9223372036854775807))

theorem rdecx_any (ao : Option Addr) (n c : Nat) (R : List Int) (w : World) (hR : BRow w ao R) (hn : R.length = n) (hnc : n ≤ c) (hcm : c ≤ 9223372036854775807) :
    Calls Try.prog 24 #[.slice ao n c] w fun e w' => RDecX ao R w w' e := by
  have hbb : ∀ y ∈ R, 0 ≤ y ∧ y ≤ 255 := fun y hy => by
    obtain ⟨i, hi⟩ := List.mem_iff_getElem?.1 hy
    exact (hR i y hi).1
  cases hL0 : R[0]? with
  | none =>
    have : R = [] := by
      cases R with
      | nil => rfl
      | cons x t => simp at hL0
    subst this
    obtain rfl : n = 0 := by simpa using hn.symm
    refine (rdecode_none ao c w).mono fun e w' ⟨h1, h2⟩ => ⟨h2, .inl ⟨?_, 6, by decide, h1⟩⟩
    rintro ⟨x, S, hx, hS⟩
    obtain ⟨k, _, _, _, h0, _⟩ := enc_facts hx hS
    simp at h0
  | some z =>
    obtain ⟨⟨hx0, hx1⟩, b, off, rfl, hc⟩ := hR 0 z hL0
    have hn0 : 0 < n := by rw [← hn]; exact (List.getElem?_eq_some_iff.1 hL0).1
    rcases kind_cases z with ⟨k, rfl, h1, h2⟩ | hbad
    · refine (rdecodeq_k _ n c R w hR hn k h1 h2 hL0 hnc hcm).mono ?_
      rintro e w' ⟨hg, ⟨hs, he⟩ | ⟨_, hok, he⟩ | ⟨hle, hok, ad, cc, he, hc1, hc2, hb⟩⟩
      · refine ⟨hg, .inl ⟨?_, 6, by decide, he⟩⟩
        rintro ⟨x, S, hx, hS⟩
        obtain ⟨k', _, _, _, h0, hl, ho⟩ := enc_facts hx hS
        rw [hL0] at h0
        obtain rfl : k = k' := by injection h0 with h0; omega
        omega
      · refine ⟨hg, .inl ⟨?_, 100, by decide, he⟩⟩
        rintro ⟨x, S, hx, hS⟩
        obtain ⟨k', _, _, _, h0, hl, ho⟩ := enc_facts hx hS
        rw [hL0] at h0
        obtain rfl : k = k' := by injection h0 with h0; omega
        rw [hok] at ho; cases ho
      · have hk : okx (⟨(k : Int), hv (sA k) (sB k) (sC k) R 0, hv (sA k) (sB k) (sC k) R 1, hv (sA k) (sB k) (sC k) R 2⟩ : I4) = true := by
          unfold okx; rw [okZ_in rfl h1 h2]; exact hok
        refine ⟨hg, .inr ⟨⟨(k : Int), hv (sA k) (sB k) (sC k) R 0, hv (sA k) (sB k) (sC k) R 1, hv (sA k) (sB k) (sC k) R 2⟩, R.drop (alN (sA k) (sB k) (sC k) 3), hk, ?_, ad, _, cc, he, hb, by rw [List.length_drop, hn], hc1, hc2⟩⟩
        rw [encx_eq rfl]
        simp only
        rw [enc_hv hL0 hbb (by rw [hn]; exact hle)]
        exact (List.take_append_drop _ _).symm
    · refine (rdecode_badk b off n c z w hn0 (by simpa using hc) hbad hx0 hx1 (by omega)).mono fun e w' ⟨h1, h2⟩ => ⟨h2, .inl ⟨?_, 100, by decide, h1⟩⟩
      rintro ⟨x, S, hx, hS⟩
      obtain ⟨k', _, _, _, h0, hl, ho⟩ := enc_facts hx hS
      rw [hL0] at h0
      injection h0 with h0
      omega
end Go.Proofs.Ytmckaimgeflncaa
