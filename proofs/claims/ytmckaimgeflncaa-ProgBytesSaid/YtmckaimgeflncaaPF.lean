/- Programs one behind the other: which parts may be. -/
import Derived.Test.YtmckaimgeflncaaPK
namespace Go.Proofs.Ytmckaimgeflncaa
open Go.RowKit
set_option linter.unusedVariables false
set_option linter.unusedSimpArgs false

/-- an instruction that may not be in a part of n -/
def unf (n : Nat) (x : I4) : Bool := !okx x || (isJ x.k && decide ((n : Int) < tgt x.k x.a x.b))

set_option maxHeartbeats 1600000 in
theorem unfit_any (x : I4) (b : Nat) (ao : Option Addr) (n c : Nat) (w : World) (h : w.cell? ⟨b, 0, none⟩ = some (.slice ao n c)) :
    Calls Try.prog 40 #[.agg #[.int .i64 x.k, .int .i64 x.a, .int .i64 x.b, .int .i64 x.c], .pointer (some ⟨b, 0, none⟩)] w fun e w' => e = .returned (.bool (unf n x)) ∧ w.grownBy w' none := by
  have HC := Lib.hid (chk_x x)
  have HT := Lib.hid (target_any x.k x.a x.b x.c)
  have hu : unf n x = (!okx x || (isJ x.k && decide ((n : Int) < tgt x.k x.a x.b))) := rfl
  generalize unf n x = u at *
  generalize okx x = ok at *
  generalize isJ x.k = j at *
  generalize tgt x.k x.a x.b = t at *
  obtain ⟨k0, a0, b0, c0⟩ := x
  simp only at *
  have g0 := g_alloc (g_refl w none) (.cells #[.int .i64 k0, .int .i64 a0, .int .i64 b0, .int .i64 c0] 43)
  have HB := Lib.hid (Blk.new w #[.int .i64 k0, .int .i64 a0, .int .i64 b0, .int .i64 c0] 43)
  have hcase : (∃ b : Bool, (decide ((n : Int) < t)) = b ∧ ((n : Int) < t ↔ b = true)) := ⟨_, rfl, by simp⟩
  obtain ⟨q, hq, hqi⟩ := hcase
  rw [hq] at hu
  subst hu
  clear hq
  cases ok
  · go_enter Try.func40, Try.ntmps40
    go_wp2_with fail
    refine (HT.out _).mono ?_
    rintro e w1 ⟨rfl, g1⟩
    have b1 := HB.out.keepn g1
    have q0 := b1.cell 0 (.int .i64 k0) rfl
    have q1 := b1.cell 1 (.int .i64 a0) rfl
    have q2 := b1.cell 2 (.int .i64 b0) rfl
    have q3 := b1.cell 3 (.int .i64 c0) rfl
    go_wp2_with fail
    refine (HC.out _).mono ?_
    rintro e w2 ⟨rfl, g2⟩
    go_wp2_with fail
    go_ret
    exact ⟨rfl, g_trans (g_trans g0 g1) g2⟩
  · cases j
    · go_enter Try.func40, Try.ntmps40
      go_wp2_with fail
      refine (HT.out _).mono ?_
      rintro e w1 ⟨rfl, g1⟩
      have b1 := HB.out.keepn g1
      have q0 := b1.cell 0 (.int .i64 k0) rfl
      have q1 := b1.cell 1 (.int .i64 a0) rfl
      have q2 := b1.cell 2 (.int .i64 b0) rfl
      have q3 := b1.cell 3 (.int .i64 c0) rfl
      go_wp2_with fail
      refine (HC.out _).mono ?_
      rintro e w2 ⟨rfl, g2⟩
      go_wp2_with fail
      go_ret
      exact ⟨rfl, g_trans (g_trans g0 g1) g2⟩
    · cases q
      · have hlt : ¬ (n : Int) < t := by simpa using hqi
        go_enter Try.func40, Try.ntmps40
        go_wp2_with fail
        refine (HT.out _).mono ?_
        rintro e w1 ⟨rfl, g1⟩
        have b1 := HB.out.keepn g1
        have q0 := b1.cell 0 (.int .i64 k0) rfl
        have q1 := b1.cell 1 (.int .i64 a0) rfl
        have q2 := b1.cell 2 (.int .i64 b0) rfl
        have q3 := b1.cell 3 (.int .i64 c0) rfl
        go_wp2_with fail
        refine (HC.out _).mono ?_
        rintro e w2 ⟨rfl, g2⟩
        have hh := (g_trans (g_trans g0 g1) g2).cell h (by simp)
        go_wp2_with fail
        go_ret
        exact ⟨rfl, g_trans (g_trans g0 g1) g2⟩
      · have hlt : (n : Int) < t := by simpa using hqi
        go_enter Try.func40, Try.ntmps40
        go_wp2_with fail
        refine (HT.out _).mono ?_
        rintro e w1 ⟨rfl, g1⟩
        have b1 := HB.out.keepn g1
        have q0 := b1.cell 0 (.int .i64 k0) rfl
        have q1 := b1.cell 1 (.int .i64 a0) rfl
        have q2 := b1.cell 2 (.int .i64 b0) rfl
        have q3 := b1.cell 3 (.int .i64 c0) rfl
        go_wp2_with fail
        refine (HC.out _).mono ?_
        rintro e w2 ⟨rfl, g2⟩
        have hh := (g_trans (g_trans g0 g1) g2).cell h (by simp)
        go_wp2_with fail
        go_ret
        exact ⟨rfl, g_trans (g_trans g0 g1) g2⟩

/-- the place of the first one -/
def IdxP (L : List I4) (n : Nat) (w w' : World) (e : Ending) : Prop := w.grownBy w' none ∧ ((L.any (unf n) = true ∧ ∃ j : Nat, e = .returned (.int .i64 j)) ∨ (L.any (unf n) = false ∧ e = .returned (.int .i64 (-1))))

set_option maxHeartbeats 1600000 in
theorem idx_any (ao : Option Addr) (n c : Nat) (L : List I4) (b : Nat) (w : World) (hL : IRow w ao L) (hn : L.length = n) (hnm : n ≤ 9223372036854775807) (h : w.cell? ⟨b, 0, none⟩ = some (.slice ao n c)) :
    Calls Try.prog 44 #[.slice ao n c, .func (.func 40) #[] #[.pointer (some ⟨b, 0, none⟩)]] w fun e w' => IdxP L n w w' e := by
  have HL := Lib.hid hL
  have HN := Lib.hid hn
  have HH := Lib.hid h
  clear hL hn h
  go_enter Try.func44, Try.ntmps44
  go_wp2_with fail
  go_loopw [8] (fun i wr => ∃ j : Nat, j ≤ n ∧ i = .int .i64 j ∧ (L.take j).any (unf n) = false ∧ w.grownBy wr none) (fun i _ => (n - intOf i).toNat)
  case atStart => exact ⟨0, Nat.zero_le _, rfl, rfl, g_refl _ _⟩
  case round =>
    obtain ⟨j, hj, rfl, hf, hg⟩ := hrel
    by_cases hlt : j < n
    · have hji : (j : Int) < n := by omega
      obtain ⟨x, hx⟩ : ∃ x, L[j]? = some x := ⟨L[j]'(by rw [HN.out]; exact hlt), List.getElem?_eq_getElem _⟩
      obtain ⟨b1, off, rfl, x0, x1, x2, x3⟩ := HL.out.keep hg j _ hx
      have GR := Lib.hid hg
      have HX := Lib.hid hx
      have HF := Lib.hid hf
      clear hg hf hx
      go_wp2_with fail
      refine (unfit_any x b _ n c wr (GR.out.cell HH.out (by simp))).mono ?_
      rintro e w2 ⟨rfl, g2⟩
      clear x0 x1 x2 x3
      cases hu : unf n x
      · have HU := Lib.hid hu
        clear hu
        go_wp2_with fail
        go_roundw
        case rel => exact ⟨j + 1, by omega, by go_num, by rw [List.take_add_one, HX.out]; simp [HF.out, HU.out], g_trans GR.out g2⟩
        case measure => simp [intOf]; omega
      · have HU := Lib.hid hu
        clear hu
        go_wp2_with fail
        go_ret
        exact ⟨g_trans GR.out g2, .inl ⟨List.any_eq_true.2 ⟨x, List.mem_of_getElem? HX.out, HU.out⟩, _, rfl⟩⟩
    · obtain rfl : j = n := by omega
      rw [List.take_of_length_le (by rw [HN.out]; exact Nat.le_refl _)] at hf
      have HF := Lib.hid hf
      have GR := Lib.hid hg
      clear hf hg
      go_wp2_with fail
      go_ret
      exact ⟨GR.out, .inr ⟨HF.out, rfl⟩⟩

set_option maxHeartbeats 800000 in
theorem contains_any (ao : Option Addr) (n c : Nat) (L : List I4) (b : Nat) (w : World) (hL : IRow w ao L) (hn : L.length = n) (hnm : n ≤ 9223372036854775807) (h : w.cell? ⟨b, 0, none⟩ = some (.slice ao n c)) :
    Calls Try.prog 39 #[.slice ao n c, .func (.func 40) #[] #[.pointer (some ⟨b, 0, none⟩)]] w fun e w' => e = .returned (.bool (L.any (unf n))) ∧ w.grownBy w' none := by
  have HI := Lib.hid (idx_any ao n c L b w hL hn hnm h)
  clear hL hn h
  generalize hu : L.any (unf n) = u at *
  have HU := Lib.hid hu
  clear hu
  go_enter Try.func39, Try.ntmps39
  go_wp2_with fail
  refine HI.out.mono ?_
  rintro e w1 ⟨g1, ⟨h1, j, rfl⟩ | ⟨h1, rfl⟩⟩
  · have hj : (0 : Int) ≤ j := by omega
    rw [HU.out] at h1
    subst h1
    go_wp2_with fail
    go_ret
    exact ⟨rfl, g1⟩
  · rw [HU.out] at h1
    subst h1
    go_wp2_with fail
    go_ret
    exact ⟨rfl, g1⟩

def fitL (L : List I4) : Bool := !L.any (unf L.length)
set_option maxHeartbeats 800000 in
theorem fits_all (ao : Option Addr) (n c : Nat) (L : List I4) (w : World) (hL : IRow w ao L) (hn : L.length = n) (hnm : n ≤ 9223372036854775807) :
    Calls Try.prog 25 #[.slice ao n c] w fun e w' => e = .returned (.bool (fitL L)) ∧ w.grownBy w' none := by
  have g0 := g_alloc (g_refl w none) (.cells #[.slice ao n c] 22)
  have hb := (Blk.new w #[.slice ao n c] 22).cell 0 _ rfl
  have HC := Lib.hid (contains_any ao n c L w.heap.size _ (hL.keep g0) hn hnm hb)
  have hu : fitL L = !L.any (unf n) := by unfold fitL; rw [hn]
  rw [hu]
  generalize L.any (unf n) = u at *
  clear hL hn hu
  go_enter Try.func25, Try.ntmps25
  go_wp2_with fail
  refine HC.out.mono ?_
  rintro e w1 ⟨rfl, g1⟩
  go_wp2_with fail
  go_ret
  exact ⟨rfl, g_trans g0 g1⟩
end Go.Proofs.Ytmckaimgeflncaa
