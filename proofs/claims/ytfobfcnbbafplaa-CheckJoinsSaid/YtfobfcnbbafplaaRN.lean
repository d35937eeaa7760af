/- The mates: what they are, by looking ahead. -/
import Derived.Test.YtfobfcnbbafplaaRM
namespace Go.Proofs.Ytfobfcnbbafplaa
open Go.RowKit
set_option linter.unusedVariables false
set_option linter.unusedSimpArgs false

theorem app_snoc {B D R : List (Int × Int)} {p : Int × Int} (h : B ++ D = R ++ [p]) (hD : D ≠ []) : ∃ D1, D = D1 ++ [p] ∧ R = B ++ D1 := by
  rcases List.eq_nil_or_concat D with rfl | ⟨D1, q, rfl⟩
  · exact absurd rfl hD
  · rw [List.concat_eq_append, ← List.append_assoc] at h
    obtain ⟨h1, h2⟩ := List.append_inj' h rfl
    injection h2 with h2
    exact ⟨D1, by rw [List.concat_eq_append, h2], h1.symm⟩
theorem scan_next {P : List I4} {i : Nat} {x : I4} {B D : List (Int × Int)} (hok : Okj P (i + 1)) (hx : P[i]? = some x) (hD : opn P i = B ++ D) (hn : ¬ (D = [] ∧ (kd P i = 16 ∨ kd P i = 17))) :
    ∃ D', opn P (i + 1) = B ++ D' ∧ (D'.length : Int) = D.length + (if kd P i = 15 then 1 else if kd P i = 17 then -1 else 0) := by
  rcases step_cases hok hx with ⟨hk, hS, _⟩ | ⟨hk, R, b0, w, hS0, hw, hS, _⟩ | ⟨hk, R, b0, w, hS0, hS, _⟩ | ⟨hk1, hk2, hk3, hS, _⟩
  · refine ⟨D ++ [((i : Int), 0)], by rw [hS, hD, List.append_assoc], ?_⟩
    rw [if_pos hk]; simp
  · obtain ⟨D1, h1, h2⟩ := app_snoc (hD.symm.trans hS0) (fun e => hn ⟨e, .inl hk⟩)
    refine ⟨D1 ++ [(b0, 1)], by rw [hS, h2, List.append_assoc], ?_⟩
    rw [if_neg (by omega), if_neg (by omega), h1]; simp
  · obtain ⟨D1, h1, h2⟩ := app_snoc (hD.symm.trans hS0) (fun e => hn ⟨e, .inr hk⟩)
    refine ⟨D1, by rw [hS, h2], ?_⟩
    rw [if_neg (by omega), if_pos hk, h1]; simp; omega
  · refine ⟨D, by rw [hS, hD], ?_⟩
    rw [if_neg hk1, if_neg hk3]; simp
section
variable {P : List I4} (hok : Okj P P.length) (ho : opn P P.length = [])
theorem okj_le {j n : Nat} (h : Okj P n) (hj : j ≤ n) : Okj P j := fun t x ht hx => h t x (by omega) hx
include hok ho
theorem scan_found {k : Nat} (hk : k < P.length) (hB : opn P (k + 1) ≠ []) : ∃ i, k < i ∧ i < P.length ∧ opn P i = opn P (k + 1) ∧ (kd P i = 16 ∨ kd P i = 17) := by
  have key : ∀ m, k + 1 + m ≤ P.length → (∃ i, k < i ∧ i < P.length ∧ opn P i = opn P (k + 1) ∧ (kd P i = 16 ∨ kd P i = 17)) ∨ ∃ D, opn P (k + 1 + m) = opn P (k + 1) ++ D := fun m => by
    induction m with
    | zero => exact fun _ => .inr ⟨[], by simp⟩
    | succ m ih =>
      intro hm
      rcases ih (by omega) with h | ⟨D, hD⟩
      · exact .inl h
      · by_cases hc : D = [] ∧ (kd P (k + 1 + m) = 16 ∨ kd P (k + 1 + m) = 17)
        · exact .inl ⟨k + 1 + m, by omega, by omega, by rw [hD, hc.1, List.append_nil], hc.2⟩
        · obtain ⟨D', h1, _⟩ := scan_next (okj_le hok (by omega)) (List.getElem?_eq_getElem (by omega)) hD hc
          exact .inr ⟨D', h1⟩
  rcases key (P.length - (k + 1)) (by omega) with h | ⟨D, hD⟩
  · exact h
  · rw [show k + 1 + (P.length - (k + 1)) = P.length by omega, ho] at hD
    have := congrArg List.length hD
    rw [List.length_append, List.length_nil] at this
    have := List.length_pos_iff.2 hB
    omega
omit ho in
theorem begin_open {k : Nat} (hk : k < P.length) (h15 : kd P k = 15) : opn P (k + 1) = opn P k ++ [((k : Int), 0)] := by
  rcases step_cases (okj_le hok (show k + 1 ≤ P.length by omega)) (List.getElem?_eq_getElem hk) with ⟨_, hS, _⟩ | ⟨hk', _⟩ | ⟨hk', _⟩ | ⟨hk', _⟩
  · exact hS
  · omega
  · omega
  · exact absurd h15 hk'
omit ho in
theorem else_open {k : Nat} (hk : k < P.length) (h16 : kd P k = 16) : ∃ R b w, opn P k = R ++ [(b, w)] ∧ w ≠ 1 ∧ opn P (k + 1) = R ++ [(b, 1)] := by
  rcases step_cases (okj_le hok (show k + 1 ≤ P.length by omega)) (List.getElem?_eq_getElem hk) with ⟨hk', _⟩ | ⟨_, R, b, w, h1, h2, h3, _⟩ | ⟨hk', _⟩ | ⟨_, hk', _⟩
  · omega
  · exact ⟨R, b, w, h1, h2, h3⟩
  · omega
  · exact absurd h16 hk'
omit ho in
theorem mate_begin {k i : Nat} (hk : k < P.length) (h15 : kd P k = 15) (hi : i < P.length) (hs : opn P i = opn P (k + 1)) (h : kd P i = 16 ∨ kd P i = 17) : (matJ P P.length)[k]? = some (i : Int) := by
  have I := invM P P.length (Nat.le_refl _) hok
  have ht : topP (opn P i) = ((k : Int), 0) := by rw [hs, begin_open hok hk h15, topP_snoc]
  rcases h with h | h
  · obtain ⟨_, b, h1, _, _, h2⟩ := I.W i hi h
    rw [ht] at h1
    obtain rfl : k = b := by simp only at h1; omega
    exact h2
  · obtain ⟨b, h1, _, _, _, h2⟩ := I.D i hi h
    rw [ht] at h1 h2
    obtain rfl : k = b := by simp only at h1; omega
    rcases h2 with ⟨_, h2⟩ | ⟨h2, _⟩
    · exact h2
    · simp at h2
omit ho in
theorem mate_else {k i : Nat} (hk : k < P.length) (h16 : kd P k = 16) (hi : i < P.length) (hs : opn P i = opn P (k + 1)) (h : kd P i = 16 ∨ kd P i = 17) : (matJ P P.length)[k]? = some (i : Int) ∧ kd P i = 17 ∧ (matJ P P.length)[i]? = some (topP (opn P k)).1 := by
  have I := invM P P.length (Nat.le_refl _) hok
  obtain ⟨R, b0, w, e1, e2, e3⟩ := else_open hok hk h16
  have ht : topP (opn P i) = (b0, 1) := by rw [hs, e3, topP_snoc]
  have htk : topP (opn P k) = (b0, w) := by rw [e1, topP_snoc]
  rcases h with h | h
  · obtain ⟨R', b', w', f1, f2, _⟩ := else_open hok hi h
    rw [f1, topP_snoc] at ht
    injection ht with _ ht
    exact absurd ht f2
  · obtain ⟨b, h1, _, _, h3, h2⟩ := I.D i hi h
    rw [ht] at h1 h2
    simp only at h1
    rcases h2 with ⟨h2, _⟩ | ⟨_, e, he, h4, h5, h6, h7⟩
    · simp at h2
    · obtain ⟨_, b2, g1, _, _, g2⟩ := I.W k hk h16
      rw [htk] at g1
      simp only at g1
      obtain rfl : b = b2 := by omega
      rw [h4] at g2
      obtain rfl : e = k := by injection g2 with g2; omega
      exact ⟨h7, h, by rw [htk]; simp only; rw [h1]; exact h3⟩
omit ho in
theorem mate_end {k : Nat} (hk : k < P.length) (h17 : kd P k = 17) : (matJ P P.length)[k]? = some (topP (opn P k)).1 := by
  obtain ⟨b, h1, _, _, h3, _⟩ := (invM P P.length (Nat.le_refl _) hok).D k hk h17
  rw [h1]; exact h3
omit ho in
theorem mate_other {k : Nat} (hk : k < P.length) (h15 : kd P k ≠ 15) (h16 : kd P k ≠ 16) (h17 : kd P k ≠ 17) : (matJ P P.length)[k]? = some (-1) :=
  (invM P P.length (Nat.le_refl _) hok).N k hk (.inr ⟨h15, h16, h17⟩)
/-- mates go round -/
theorem round_begin {k : Nat} (hk : k < P.length) (h15 : kd P k = 15) :
    (∃ d : Nat, k < d ∧ d < P.length ∧ (matJ P P.length)[k]? = some (d : Int) ∧ kd P d = 17 ∧ (matJ P P.length)[d]? = some (k : Int))
    ∨ ∃ e d : Nat, k < e ∧ e < P.length ∧ k < d ∧ d < P.length ∧ (matJ P P.length)[k]? = some (e : Int) ∧ kd P e = 16 ∧ (matJ P P.length)[e]? = some (d : Int) ∧ kd P d = 17 ∧ (matJ P P.length)[d]? = some (k : Int) := by
  have hB : opn P (k + 1) ≠ [] := by rw [begin_open hok hk h15]; simp
  obtain ⟨i, h1, h2, h3, h4⟩ := scan_found hok ho hk hB
  have hm := mate_begin hok hk h15 h2 h3 h4
  have ht : topP (opn P i) = ((k : Int), 0) := by rw [h3, begin_open hok hk h15, topP_snoc]
  rcases h4 with h4 | h4
  · right
    obtain ⟨R, b0, w, e1, e2, e3⟩ := else_open hok h2 h4
    obtain ⟨d, g1, g2, g3, g4⟩ := scan_found hok ho h2 (show opn P (i + 1) ≠ [] by rw [e3]; simp)
    obtain ⟨q1, q2, q3⟩ := mate_else hok h2 h4 g2 g3 g4
    exact ⟨i, d, h1, h2, by omega, g2, hm, h4, q1, q2, by rw [q3, ht]⟩
  · left
    exact ⟨i, h1, h2, hm, h4, by rw [mate_end hok h2 h4, ht]⟩
end
end Go.Proofs.Ytfobfcnbbafplaa
