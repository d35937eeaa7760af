/- Encode and Decode where they refuse; all that Decode does with a row of bytes. -/
import Derived.Test.YtmckaimgeflncaaQ
namespace Go.Proofs.Ytmckaimgeflncaa
open Go.RowKit
set_option linter.unusedVariables false


set_option maxHeartbeats 800000 in
theorem encode_core (k A B C : Int) (HC : ∀ w, Calls Try.prog 30 #[.agg #[.int .i64 k, .int .i64 A, .int .i64 B, .int .i64 C]] w fun e w' => e = .returned (.int .i64 100) ∧ w.grownBy w' none) (w : World) :
    Calls Try.prog 20 #[.agg #[.int .i64 k, .int .i64 A, .int .i64 B, .int .i64 C]] w fun e w' => e = .returned (.tuple #[.slice none 0 0, .int .i64 100]) ∧ w.grownBy w' none := by
  have HC := Lib.hid HC
  have g0 := g_alloc (g_refl w none) (.cells #[.int .i64 k, .int .i64 A, .int .i64 B, .int .i64 C] 43)
  go_enter Try.func20, Try.ntmps20
  go_wp2_with fail
  refine (HC.out _).mono ?_
  rintro e w1 ⟨rfl, hg⟩
  go_wp2_with fail
  go_ret2
  exact ⟨rfl, g_trans g0 hg⟩
theorem encode_no (k : Nat) (h1 : 1 ≤ k) (h2 : k ≤ 20) (A B C : Int) (hok : okI k A B C = false) (w : World) :
    Calls Try.prog 20 #[.agg #[.int .i64 k, .int .i64 A, .int .i64 B, .int .i64 C]] w fun e w' => e = .returned (.tuple #[.slice none 0 0, .int .i64 100]) ∧ w.grownBy w' none :=
  encode_core k A B C (fun w => by have := check_ok k h1 h2 A B C w; rw [hok] at this; exact this) w
theorem encode_bad (k : Int) (h : k < 1 ∨ 20 < k) (A B C : Int) (w : World) :
    Calls Try.prog 20 #[.agg #[.int .i64 k, .int .i64 A, .int .i64 B, .int .i64 C]] w fun e w' => e = .returned (.tuple #[.slice none 0 0, .int .i64 100]) ∧ w.grownBy w' none :=
  encode_core k A B C (check_bad k h A B C) w

set_option maxHeartbeats 800000 in
theorem decode_none (ao : Option Addr) (c : Nat) (w : World) : Calls Try.prog 23 #[.slice ao 0 c] w fun e w' => e = .returned (.tuple #[.agg #[.int .i64 0, .int .i64 0, .int .i64 0, .int .i64 0], .slice none 0 0, .int .i64 6]) ∧ w.grownBy w' none := by
  go_enter Try.func23, Try.ntmps23
  go_wp2_with fail
  exact bodyPost_ret (v := .tuple #[.agg #[.int .i64 0, .int .i64 0, .int .i64 0, .int .i64 0], .slice none 0 0, .int .i64 6]) (by simp [results, Try.results23, go_sem]) rfl ⟨rfl, g_alloc (g_refl _ _) _⟩

set_option maxHeartbeats 1600000 in
theorem decode_badk (b off n c : Nat) (x : Int) (w : World) (hn : 0 < n) (hn4 : n < 100000) (hc : w.cell? ⟨b, off, none⟩ = some (.int .u8 x)) (hx : x < 1 ∨ 20 < x) (hx0 : 0 ≤ x) (hx1 : x ≤ 255) :
    Calls Try.prog 23 #[.slice (some ⟨b, off, none⟩) n c] w fun e w' => e = .returned (.tuple #[.agg #[.int .i64 0, .int .i64 0, .int .i64 0, .int .i64 0], .slice none 0 0, .int .i64 100]) ∧ w.grownBy w' none := by
  have HF := Lib.hid (of_bad x hx)
  have hn0 : (0 : Int) < n := by omega
  have hn00 : ((n : Int) == 0) = false := by simp; omega
  have g0 := g_alloc (g_refl w none) (.cells #[.int .i64 0, .int .i64 0, .int .i64 0, .int .i64 0] 43)
  have hb := Blk.new w #[.int .i64 0, .int .i64 0, .int .i64 0, .int .i64 0] 43
  have HB := Lib.hid hb
  have c0 := g0.cell hc (by simp)
  clear hb hx hc
  go_enter Try.func23, Try.ntmps23
  go_wp2_with fail
  refine (HF.out _).mono ?_
  rintro e w1 ⟨rfl, hg⟩
  have g2 := g_alloc (g_refl w1 none) (.cells #[.string { data := #[] }, .int .i64 0, .int .i64 0, .int .i64 0] 61)
  have R := Lib.hid ((HB.out.keepn hg).keepn g2)
  have r0 := R.out.cell 0 (.int .i64 0) rfl
  have r1 := R.out.cell 1 (.int .i64 0) rfl
  have r2 := R.out.cell 2 (.int .i64 0) rfl
  have r3 := R.out.cell 3 (.int .i64 0) rfl
  have f0 := R.out.free 0
  have f1 := R.out.free 1
  have f2 := R.out.free 2
  have f3 := R.out.free 3
  have gA := g_trans (g_trans g0 hg) g2
  go_wp2_with fail
  generalize (w1.alloc (.cells #[.string { data := #[] }, .int .i64 0, .int .i64 0, .int .i64 0] 61)) = W2 at *
  have hF := (((R.out.set 0 (.int .i64 0)).set 1 (.int .i64 0)).set 2 (.int .i64 0)).set 3 (.int .i64 0)
  have k0 := hF.cell 0 (.int .i64 0) (by simp)
  have k1 := hF.cell 1 (.int .i64 0) (by simp)
  have k2 := hF.cell 2 (.int .i64 0) (by simp)
  have k3 := hF.cell 3 (.int .i64 0) (by simp)
  have gs := g_set (g_set (g_set (g_set (g_refl W2 (some w.heap.size)) (p := ⟨w.heap.size, 0, none⟩) (.inl rfl) (.int .i64 0)) (p := ⟨w.heap.size, 1, none⟩) (.inl rfl) (.int .i64 0)) (p := ⟨w.heap.size, 2, none⟩) (.inl rfl) (.int .i64 0)) (p := ⟨w.heap.size, 3, none⟩) (.inl rfl) (.int .i64 0)
  exact bodyPost_ret (v := .tuple #[.agg #[.int .i64 0, .int .i64 0, .int .i64 0, .int .i64 0], .slice none 0 0, .int .i64 100]) (by simp [results, Try.results23, go_sem, k0, k1, k2, k3]) rfl ⟨rfl, g_in gA gs (Nat.le_refl _)⟩

/-- ALL THAT Decode DOES: it refuses, or reads what, encoded, stood there, and tells what stands behind it. -/
theorem decode_all (ao : Option Addr) (n c : Nat) (L : List Int) (w : World) (hL : BRow w ao L) (hn : L.length = n) (hn4 : n < 100000) (hnc : n ≤ c) (hcm : c ≤ 9223372036854775807) :
    Calls Try.prog 23 #[.slice ao n c] w fun e w' => w.grownBy w' none ∧ ((∃ r : Int, r ≠ 0 ∧ e = .returned (.tuple #[.agg #[.int .i64 0, .int .i64 0, .int .i64 0, .int .i64 0], .slice none 0 0, .int .i64 r]))
      ∨ (∃ (k : Nat) (A B C : Int) (v : Value) (m : Nat), 1 ≤ k ∧ k ≤ 20 ∧ okI k A B C = true ∧ encK k (sA k) (sB k) (sC k) A B C 3 ++ L.drop m = L ∧ e = .returned (.tuple #[.agg #[.int .i64 k, .int .i64 A, .int .i64 B, .int .i64 C], v, .int .i64 0]) ∧ w'.ownsRow w.heap.size 5 1 v (n - m) (byV (L.drop m)))) := by
  cases hL0 : L[0]? with
  | none =>
    have : L = [] := by
      cases L with
      | nil => rfl
      | cons x t => simp at hL0
    subst this
    obtain rfl : n = 0 := by simpa using hn.symm
    exact (decode_none ao c w).mono fun e w' ⟨h1, h2⟩ => ⟨h2, .inl ⟨6, by decide, h1⟩⟩
  | some x =>
    obtain ⟨⟨hx0, hx1⟩, b, off, rfl, hc⟩ := hL 0 x hL0
    have hn0 : 0 < n := by rw [← hn]; exact (List.getElem?_eq_some_iff.1 hL0).1
    rcases kind_cases x with ⟨k, rfl, h1, h2⟩ | hbad
    · refine (decode_k _ n c L w hL hn k h1 h2 hL0 hn4 hnc hcm).mono ?_
      rintro e w' ⟨hg, ⟨_, he⟩ | ⟨_, _, he⟩ | ⟨hle, hok, v, he, how⟩⟩
      · exact ⟨hg, .inl ⟨6, by decide, he⟩⟩
      · exact ⟨hg, .inl ⟨100, by decide, he⟩⟩
      · refine ⟨hg, .inr ⟨k, _, _, _, v, alN (sA k) (sB k) (sC k) 3, h1, h2, hok, ?_, he, how⟩⟩
        rw [enc_hv hL0 (fun y hy => by
          obtain ⟨i, hi⟩ := List.mem_iff_getElem?.1 hy
          exact (hL i y hi).1) (by rw [hn]; exact hle)]
        exact List.take_append_drop _ _
    · exact (decode_badk b off n c x w hn0 hn4 (by simpa using hc) hbad hx0 hx1).mono fun e w' ⟨h1, h2⟩ => ⟨h2, .inl ⟨100, by decide, h1⟩⟩

end Go.Proofs.Ytmckaimgeflncaa

