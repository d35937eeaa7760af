/- Numbers as bytes, there and back. -/
import Derived.Test.YtmckaimgeflncaaG
namespace Go.Proofs.Ytmckaimgeflncaa
open Go.RowKit
set_option linter.unusedVariables false


/-- bytes as a number, the first ahead, with what is ahead of them -/
def nf (u : Int) (l : List Int) : Int := l.foldl (fun u x => (u * 256 + x) % 18446744073709551616) u
theorem numU_nf (l : List Int) : numU l = nf 0 l := rfl
theorem digit (U p : Int) (hp : 0 < p) : U % (p * 256) = p * (U / p % 256) + U % p := by
  have h1 := Int.mul_ediv_add_emod U p
  have h2 := Int.mul_ediv_add_emod (U / p) 256
  have h3 := Int.emod_nonneg U (Int.ne_of_gt hp)
  have h4 := Int.emod_lt_of_pos U hp
  have h5 := Int.emod_nonneg (U / p) (show (256 : Int) ≠ 0 by decide)
  have h6 := Int.emod_lt_of_pos (U / p) (show (0 : Int) < 256 by decide)
  generalize U % p = r at *
  generalize U / p % 256 = d at *
  generalize U / p / 256 = q at *
  have h7 : U = (p * d + r) + p * 256 * q := by
    rw [← h1, ← h2]
    grind
  rw [h7, Int.add_mul_emod_self_left]
  refine Int.emod_eq_of_lt ?_ ?_
  · have := Int.mul_nonneg (Int.le_of_lt hp) h5
    omega
  · have : p * d ≤ p * 255 := Int.mul_le_mul_of_nonneg_left (by omega) (Int.le_of_lt hp)
    omega
theorem nf_be (m : Nat) : ∀ (u n : Int), nf u (be m n) % 18446744073709551616 = (u * 256 ^ m + (n % 18446744073709551616) % 256 ^ m) % 18446744073709551616 := by
  induction m with
  | zero => intro u n; simp [nf, be, Int.emod_one]
  | succ m ih =>
    intro u n
    have e : nf u (be (m + 1) n) = nf ((u * 256 + n % 18446744073709551616 / 256 ^ m % 256) % 18446744073709551616) (be m n) := rfl
    rw [e, ih]
    have hp : (0 : Int) < 256 ^ m := Int.pow_pos (by decide)
    rw [Int.pow_succ, digit _ _ hp]
    generalize n % 18446744073709551616 / 256 ^ m % 256 = d
    generalize n % 18446744073709551616 % 256 ^ m = r
    generalize (256 : Int) ^ m = p
    rw [Int.add_emod, Int.mul_emod, Int.emod_emod_of_dvd _ (Int.dvd_refl _), ← Int.mul_emod, ← Int.add_emod]
    congr 1
    grind
theorem numU_be (m : Nat) (n : Int) : numU (be m n) = (n % 18446744073709551616) % 256 ^ m % 18446744073709551616 := by
  have h := nf_be m 0 n
  have hr := numU_range (be m n)
  rw [numU_nf] at hr ⊢
  rw [Int.emod_eq_of_lt hr.1 hr.2] at h
  rw [h, Int.zero_mul, Int.zero_add]
theorem wdN_0 : wdN 0 = 0 := by decide
theorem wdN_1 : wdN 1 = 1 := by decide
theorem wdN_2 : wdN 2 = 8 := by decide
theorem wdN_3 : wdN 3 = 2 := by decide
theorem wdN_4 : wdN 4 = 1 := by decide
theorem wdN_5 : wdN 5 = 1 := by decide
theorem wdN_6 : wdN 6 = 3 := by decide
/-- a number that fits comes back -/
theorem back_num {s A f : Int} (h0 : 0 ≤ s) (h6 : s ≤ 6) (h : fitsP s A f (2 ^ f.toNat)) : wrap64 (numU (be (wdN s) A)) = A := by
  rw [numU_be]
  unfold fitsP at h
  have hc : s = 0 ∨ s = 1 ∨ s = 2 ∨ s = 3 ∨ s = 4 ∨ s = 5 ∨ s = 6 := by omega
  rcases hc with rfl | rfl | rfl | rfl | rfl | rfl | rfl
  · rw [wdN_0, show (256 : Int) ^ 0 = 1 from rfl]; have : A = 0 := by omega
    unfold wrap64; omega
  · rw [wdN_1, show (256 : Int) ^ 1 = 256 from rfl]; unfold wrap64; omega
  · rw [wdN_2, show (256 : Int) ^ 8 = 18446744073709551616 from rfl]; unfold wrap64; omega
  · rw [wdN_3, show (256 : Int) ^ 2 = 65536 from rfl]; unfold wrap64; omega
  · rw [wdN_4, show (256 : Int) ^ 1 = 256 from rfl]; unfold wrap64; omega
  · rw [wdN_5, show (256 : Int) ^ 1 = 256 from rfl]; unfold wrap64; omega
  · have hf : 1 ≤ f ∧ f ≤ 16 := by omega
    have hp := pow_le hf.1 hf.2
    rw [wdN_6, show (256 : Int) ^ 3 = 16777216 from rfl]; unfold wrap64; omega
theorem be_congr (m : Nat) {n n' : Int} (h : n % 18446744073709551616 = n' % 18446744073709551616) : be m n = be m n' := by
  induction m with
  | zero => rfl
  | succ m ih => unfold be; rw [h, ih]
/-- bytes that are read come back -/
theorem back_bytes {s : Int} (h0 : 0 ≤ s) (h6 : s ≤ 6) {l : List Int} (hl : l.length = wdN s) (hb : ∀ x ∈ l, 0 ≤ x ∧ x ≤ 255) : be (wdN s) (wrap64 (numU l)) = l := by
  have hw : wrap64 (numU l) % 18446744073709551616 = numU l % 18446744073709551616 := by unfold wrap64; omega
  rw [be_congr _ hw]
  have hc : wdN s = 0 ∨ wdN s = 1 ∨ wdN s = 2 ∨ wdN s = 3 ∨ wdN s = 8 := by
    have hs : s = 0 ∨ s = 1 ∨ s = 2 ∨ s = 3 ∨ s = 4 ∨ s = 5 ∨ s = 6 := by omega
    rcases hs with rfl | rfl | rfl | rfl | rfl | rfl | rfl <;> decide
  rcases hc with e | e | e | e | e
  · rw [e] at hl ⊢
    match l, hl with
    | [], _ => rfl
  · rw [e] at hl ⊢
    match l, hl with
    | [a], _ =>
      have ha := hb a (by simp)
      simp only [be, numU, List.foldl_cons, List.foldl_nil, List.cons.injEq, and_true]
      omega
  · rw [e] at hl ⊢
    match l, hl with
    | [a, b], _ =>
      have ha := hb a (by simp)
      have hb' := hb b (by simp)
      simp only [be, numU, List.foldl_cons, List.foldl_nil, List.cons.injEq, and_true]
      refine ⟨?_, ?_⟩ <;> omega
  · rw [e] at hl ⊢
    match l, hl with
    | [a, b, c], _ =>
      have ha := hb a (by simp)
      have hb' := hb b (by simp)
      have hc' := hb c (by simp)
      simp only [be, numU, List.foldl_cons, List.foldl_nil, List.cons.injEq, and_true]
      refine ⟨?_, ?_, ?_⟩ <;> omega
  · rw [e] at hl ⊢
    match l, hl with
    | [a, b, c, d, e1, f, g, i], _ =>
      have ha := hb a (by simp)
      have hb' := hb b (by simp)
      have hc' := hb c (by simp)
      have hd' := hb d (by simp)
      have he' := hb e1 (by simp)
      have hf' := hb f (by simp)
      have hg' := hb g (by simp)
      have hi' := hb i (by simp)
      have hv : numU [a, b, c, d, e1, f, g, i] = ((((((a * 256 + b) * 256 + c) * 256 + d) * 256 + e1) * 256 + f) * 256 + g) * 256 + i := by
        simp only [numU, List.foldl_cons, List.foldl_nil]
        omega
      rw [hv]
      simp only [be, List.cons.injEq, and_true]
      refine ⟨?_, ?_, ?_, ?_, ?_, ?_, ?_, ?_⟩ <;> omega
end Go.Proofs.Ytmckaimgeflncaa

