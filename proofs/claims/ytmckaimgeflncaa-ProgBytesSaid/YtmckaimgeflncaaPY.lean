/- A byte that is turned is found. -/
import Derived.Test.YtmckaimgeflncaaPM
import Derived.Laws.Bits64
import Derived.Lib.SmallJoins
namespace Go.Proofs.Ytmckaimgeflncaa
open Go.RowKit
set_option linter.unusedVariables false
set_option linter.unusedSimpArgs false
theorem xor_u8_nat (a b : Nat) (ha : a < 256) (hb : b < 256) : bits .xor .u8 (a : Int) (b : Int) = ((a ^^^ b : Nat) : Int) := by
  have hx : a ^^^ b < 2 ^ 8 := Nat.xor_lt_two_pow (by omega) (by omega)
  have h1 : (BitVec.ofInt 8 (a : Int)).toNat = a := by simp; omega
  have h2 : (BitVec.ofInt 8 (b : Int)).toNat = b := by simp; omega
  show IntKind.u8.wrap ((BitVec.ofInt 8 (a : Int) ^^^ BitVec.ofInt 8 (b : Int)).toNat : Int) = _
  rw [BitVec.toNat_xor, h1, h2, IntKind.wrap_u8]
  omega
theorem xor_turn {x y : Int} (hx : 0 ≤ x ∧ x ≤ 255) (hy : 0 ≤ y ∧ y ≤ 255) (h : y ≠ 0) : 0 ≤ bits .xor .u8 x y ∧ bits .xor .u8 x y ≤ 255 ∧ bits .xor .u8 x y ≠ x := by
  obtain ⟨a, rfl⟩ := Int.eq_ofNat_of_zero_le hx.1
  obtain ⟨b, rfl⟩ := Int.eq_ofNat_of_zero_le hy.1
  rw [xor_u8_nat a b (by omega) (by omega)]
  have h1 : a ^^^ b < 2 ^ 8 := Nat.xor_lt_two_pow (by omega) (by omega)
  refine ⟨by omega, by omega, fun e => h ?_⟩
  have e1 : a ^^^ b = a := by omega
  have e2 : a ^^^ (a ^^^ b) = a ^^^ a := by rw [e1]
  rw [← Nat.xor_assoc, Nat.xor_self, Nat.zero_xor] at e2
  omega
theorem sumB_sum (l : List Int) : sumB l = l.sum % 256 := by
  rcases List.eq_nil_or_concat l with rfl | ⟨M, x, rfl⟩
  · rfl
  · rw [List.concat_eq_append, sumB_snoc, sumB_sum M, List.sum_append]
    simp only [List.sum_cons, List.sum_nil]
    omega
termination_by l.length
decreasing_by simp_all
theorem sum_set : ∀ (l : List Int) (i : Nat) (x z : Int), l[i]? = some x → (l.set i z).sum = l.sum - x + z := by
  intro l
  induction l with
  | nil => intro i x z h; simp at h
  | cons a t ih =>
    intro i x z h
    cases i with
    | zero => simp at h; subst h; simp [List.set]; omega
    | succ i => simp at h; simp only [List.set, List.sum_cons]; rw [ih i x z h]; omega
/-- a byte that is turned ahead of the last one: no program's bytes -/
theorem turned {L : List I4} {i : Nat} {x z : Int} (hi : i < (full L).length - 1) (hx : (full L)[i]? = some x) (hx0 : 0 ≤ x ∧ x ≤ 255) (hz : 0 ≤ z ∧ z ≤ 255) (hne : z ≠ x) : ¬ ∃ p, IsB ((full L).set i z) p := by
  rintro ⟨p, -, -, h⟩
  unfold full at h hx hi
  simp only [List.length_append, List.length_cons, List.length_nil] at hi
  rw [List.getElem?_append_left (by omega)] at hx
  rw [List.set_append_left _ _ (by omega)] at h
  obtain ⟨h1, h2⟩ := List.append_inj' h rfl
  simp only [List.cons.injEq, and_true] at h2
  rw [← h1, sumB_sum, sumB_sum, sum_set _ _ _ _ hx] at h2
  omega
theorem own_slice2 {w : World} {base : Nat} {v : Value} {n : Nat} {M : List Int} (h : w.ownsRow base 5 1 v n (byV M)) (hpos : 0 < n) (hb : ∀ x ∈ M, 0 ≤ x ∧ x ≤ 255) :
    ∃ g c, v = .slice (some ⟨g, 0, none⟩) n c ∧ base ≤ g ∧ g < w.heap.size ∧ n ≤ c ∧ c ≤ 9223372036854775807 ∧ M.length = n ∧ BRow w (some ⟨g, 0, none⟩) M ∧ ∀ i, w.frozen? ⟨g, i, none⟩ = false := by
  obtain ⟨g, c, rfl, h1, h2, h3, h4, h5, _⟩ := own_slice h hpos
  obtain ⟨ao, c', hv, hbr, _⟩ := brow_own h hb
  injection hv with q1 q2 q3
  refine ⟨g, c, rfl, h1, h2, h3, h4, h5, by rw [q1]; exact hbr, fun i => ?_⟩
  rcases h.2 with ⟨hv', _⟩ | ⟨g', cap, cur, hv', hbg, hh, _⟩
  · cases hv'
  · injection hv' with e1 e2 e3
    injection e1 with e1
    injection e1 with e1
    subst e1
    simp [World.frozen?, hh]
theorem brow_set {w : World} {g : Nat} {L : List Int} (h : BRow w (some ⟨g, 0, none⟩) L) {i : Nat} {x z : Int} (hx : L[i]? = some x) (hz : 0 ≤ z ∧ z ≤ 255) : BRow (w.setCell ⟨g, i, none⟩ (.int .u8 z)) (some ⟨g, 0, none⟩) (L.set i z) := by
  intro j y hy
  by_cases e : j = i
  · subst e
    rw [List.getElem?_set_self (List.getElem?_eq_some_iff.1 hx).1] at hy
    cases hy
    obtain ⟨_, b, off, hb, hc⟩ := h j x hx
    cases hb
    refine ⟨hz, g, 0, rfl, ?_⟩
    rw [Nat.zero_add] at hc ⊢
    exact World.cell?_setCell_same' _ _ _ (by rw [hc]; rfl)
  · rw [List.getElem?_set_ne (Ne.symm e)] at hy
    obtain ⟨h0, b, off, hb, hc⟩ := h j y hy
    cases hb
    refine ⟨h0, g, 0, rfl, ?_⟩
    rw [World.cell?_setCell_other]
    · exact hc
    · intro h9
      injection h9 with h9 h10
      omega
end Go.Proofs.Ytmckaimgeflncaa
