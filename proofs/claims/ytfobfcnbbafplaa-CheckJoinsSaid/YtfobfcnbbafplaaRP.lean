/- What through leaves, by the document's steps: plain facts. -/
import Derived.Test.YtfobfcnbbafplaaRA
namespace Go.Proofs.Ytfobfcnbbafplaa
open Go.RowKit
set_option linter.unusedVariables false
set_option linter.unusedSimpArgs false

def Nn (L : List (Int × Int)) : Prop := ∀ p ∈ L, 0 ≤ p.1
theorem topP_mem {L : List (Int × Int)} (h : L ≠ []) : topP L ∈ L := by
  rcases List.eq_nil_or_concat L with rfl | ⟨R, p, rfl⟩
  · exact absurd rfl h
  · rw [List.concat_eq_append, topP_snoc]; simp
theorem top_neg {L : List (Int × Int)} (h : Nn L) : (topP L).1 < 0 ↔ L = [] := by
  constructor
  · intro h1
    by_cases hL : L = []
    · exact hL
    · have := h _ (topP_mem hL); omega
  · rintro rfl; decide
theorem nn_nil : Nn [] := fun p hp => by cases hp
theorem rstep_nn {kn k : Int} {L : List (Int × Int)} (h0 : 0 ≤ kn) (h : Nn L) : Nn (rstep kn k L).2 := by
  have hd : Nn L.dropLast := fun p hp => h p ((List.dropLast_sublist L).subset hp)
  unfold rstep
  repeat' split
  all_goals first | exact h | exact hd | skip
  · intro p hp
    rcases List.mem_append.1 hp with hh | hh
    · exact h p hh
    · simp at hh; subst hh; exact h0
  · next _ _ hne =>
    intro p hp
    rcases List.mem_append.1 hp with hh | hh
    · exact hd p hh
    · simp at hh; subst hh; show 0 ≤ (topP L).1; exact h _ (topP_mem (fun e => hne (.inl e)))
theorem rstep_len {kn k : Int} {L : List (Int × Int)} (h : L.length ≤ 8) : (rstep kn k L).2.length ≤ 8 := by
  unfold rstep
  repeat' split
  all_goals first | exact h | (simp; omega)
theorem step_same {kn : Nat} {x : I4} {L : List (Int × Int)} {M : List Int} (h : okx x = true) (hn : Nn L) : (stepP kn x L M).1 = (rstep kn x.k L).1 ∧ (stepP kn x L M).2.1 = (rstep kn x.k L).2 := by
  have ht := top_neg hn
  have hge : 0 ≤ (topP L).1 ↔ 0 < L.length := by
    rw [← Int.not_lt, ht, List.length_pos_iff]
  unfold stepP rstep
  rw [if_neg (by simp [h])]
  by_cases h15 : x.k = 15
  · rw [if_pos h15, if_pos h15]; split <;> exact ⟨rfl, rfl⟩
  rw [if_neg h15, if_neg h15]
  by_cases h16 : x.k = 16
  · rw [if_pos h16, if_pos h16]
    by_cases hc : L = [] ∨ (topP L).2 = 1
    · rw [if_pos (by rw [ht]; exact hc), if_pos hc]; exact ⟨rfl, rfl⟩
    · rw [if_neg (by rw [ht]; exact hc), if_neg hc]; exact ⟨rfl, rfl⟩
  rw [if_neg h16, if_neg h16]
  by_cases h17 : x.k = 17
  · rw [if_pos h17, if_pos h17]
    by_cases hc : L = []
    · rw [if_pos (ht.2 hc), if_pos hc]; exact ⟨rfl, rfl⟩
    · rw [if_neg (fun h => hc (ht.1 h)), if_neg hc]; exact ⟨rfl, rfl⟩
  rw [if_neg h17, if_neg h17]
  by_cases h18 : x.k = 18
  · rw [if_pos h18, if_pos h18]; exact ⟨by simp only [hge], rfl⟩
  rw [if_neg h18, if_neg h18]
  by_cases h20 : x.k = 20
  · rw [if_pos h20, if_pos h20]; exact ⟨by simp only [ht, List.length_eq_zero_iff], rfl⟩
  rw [if_neg h20, if_neg h20]; exact ⟨rfl, rfl⟩

/-- the ways that are open ahead of a place -/
def opn (P : List I4) : Nat → List (Int × Int)
  | 0 => []
  | k + 1 => match P[k]? with
    | some x => (rstep k x.k (opn P k)).2
    | none => opn P k
theorem opn_succ {P : List I4} {k : Nat} {x : I4} (h : P[k]? = some x) : opn P (k + 1) = (rstep k x.k (opn P k)).2 := by
  rw [opn, h]
theorem opn_over {P : List I4} {k : Nat} (h : P.length ≤ k) : opn P (k + 1) = opn P k := by
  rw [opn, List.getElem?_eq_none h]
theorem opn_nn (P : List I4) : ∀ k, Nn (opn P k) := fun k => by
  induction k with
  | zero => exact nn_nil
  | succ k ih =>
    cases h : P[k]? with
    | none => rw [opn, h]; exact ih
    | some x => rw [opn_succ h]; exact rstep_nn (by omega) ih
theorem opn_len (P : List I4) : ∀ k, (opn P k).length ≤ 8 := fun k => by
  induction k with
  | zero => exact Nat.zero_le _
  | succ k ih =>
    cases h : P[k]? with
    | none => rw [opn, h]; exact ih
    | some x => rw [opn_succ h]; exact rstep_len ih
def tops (P : List I4) (j : Nat) : List (Int × Int) := (List.range j).map fun t => topP (opn P t)
theorem tops_succ (P : List I4) (j : Nat) : tops P (j + 1) = tops P j ++ [topP (opn P j)] := by simp [tops, List.range_succ]
theorem tops_len (P : List I4) (j : Nat) : (tops P j).length = j := by simp [tops]
theorem tops_at (P : List I4) {j t : Nat} (h : t < j) : (tops P j).getD t (0, 0) = topP (opn P t) := by
  simp [tops, List.getD, h]
/-- nothing is wrong ahead of place j -/
def Okj (P : List I4) (j : Nat) : Prop := ∀ t x, t < j → P[t]? = some x → okx x = true ∧ (rstep t x.k (opn P t)).1 = true
theorem okj_zero (P : List I4) : Okj P 0 := fun t x h => absurd h (Nat.not_lt_zero _)
theorem okj_succ {P : List I4} {j : Nat} {x : I4} (h : Okj P j) (hx : P[j]? = some x) (h1 : okx x = true) (h2 : (rstep j x.k (opn P j)).1 = true) : Okj P (j + 1) := fun t y ht hy => by
  rcases Nat.lt_or_ge t j with hh | hh
  · exact h t y hh hy
  · obtain rfl : t = j := by omega
    rw [hx] at hy; cases hy; exact ⟨h1, h2⟩
theorem okj_or (P : List I4) : ∀ j, j ≤ P.length → Okj P j ∨ ∃ t x, t < j ∧ Okj P t ∧ P[t]? = some x ∧ (okx x = false ∨ (rstep t x.k (opn P t)).1 = false) := fun j => by
  induction j with
  | zero => exact fun _ => .inl (okj_zero P)
  | succ j ih =>
    intro hj
    rcases ih (by omega) with h | ⟨t, x, ht, h1, h2, h3⟩
    · obtain ⟨x, hx⟩ : ∃ x, P[j]? = some x := ⟨P[j], List.getElem?_eq_getElem (by omega)⟩
      by_cases h1 : okx x = true
      · by_cases h2 : (rstep j x.k (opn P j)).1 = true
        · exact .inl (okj_succ h hx h1 h2)
        · exact .inr ⟨j, x, by omega, h, hx, .inr (by simpa using h2)⟩
      · exact .inr ⟨j, x, by omega, h, hx, .inl (by simpa using h1)⟩
    · exact .inr ⟨t, x, by omega, h1, h2, h3⟩
/-- the mates ahead of place j -/
def matJ (P : List I4) : Nat → List Int
  | 0 => List.replicate P.length (-1)
  | k + 1 => match P[k]? with
    | some x => (stepP k x (opn P k) (matJ P k)).2.2.1
    | none => matJ P k
theorem goP_at (P : List I4) : ∀ j, j ≤ P.length → Okj P j → goP 0 P [] [] (List.replicate P.length (-1)) = goP j (P.drop j) (opn P j) (tops P j) (matJ P j) := fun j => by
  induction j with
  | zero => exact fun _ _ => rfl
  | succ j ih =>
    intro hj h
    obtain ⟨x, hx⟩ : ∃ x, P[j]? = some x := ⟨P[j], List.getElem?_eq_getElem (by omega)⟩
    have hx2 : P[j] = x := by rw [List.getElem?_eq_getElem (by omega)] at hx; injection hx
    obtain ⟨h1, h2⟩ := h j x (by omega) hx
    obtain ⟨s1, s2⟩ := step_same (kn := j) (M := matJ P j) h1 (opn_nn P j)
    rw [ih (by omega) (fun t y ht hy => h t y (by omega) hy), List.drop_eq_getElem_cons (by omega), hx2]
    rw [goP, s1, h2, if_pos rfl, s2, ← opn_succ hx, ← tops_succ]
    have : matJ P (j + 1) = (stepP j x (opn P j) (matJ P j)).2.2.1 := by rw [matJ, hx]
    rw [this]
theorem goP_end {P : List I4} (h : Okj P P.length) : goP 0 P [] [] (List.replicate P.length (-1)) = ⟨opn P P.length, tops P P.length, matJ P P.length, -1, false⟩ := by
  rw [goP_at P _ (Nat.le_refl _) h, List.drop_eq_nil_of_le (Nat.le_refl _)]; rfl
theorem stepP_not {kn : Nat} {x : I4} {L : List (Int × Int)} {M : List Int} (h : okx x = false) : stepP kn x L M = (false, L, M, false) := by
  unfold stepP; rw [if_pos h]
theorem stepP_deep2 {kn : Nat} {x : I4} {L : List (Int × Int)} {M : List Int} (h : okx x = true) (hs : (stepP kn x L M).1 = false) : (stepP kn x L M).2.2.2 = decide (x.k = 15) := by
  unfold stepP at *
  rw [if_neg (by simp [h])] at *
  by_cases h15 : x.k = 15
  · rw [if_pos h15] at *
    split
    · simp [h15]
    · next hh => rw [if_neg hh] at hs; cases hs
  · rw [if_neg h15] at *
    repeat' split
    all_goals simp [h15]
theorem thr_stop {P : List I4} {j : Nat} {x : I4} (h1 : 1 ≤ P.length) (h5 : P.length ≤ 512) (hj : Okj P j) (hx : P[j]? = some x) (hb : okx x = false ∨ (rstep j x.k (opn P j)).1 = false) :
    (thrA P).bad = j ∧ (thrA P).deep = (okx x && decide (x.k = 15)) := by
  have hlt := (List.getElem?_eq_some_iff.1 hx).1
  have hx2 : P[j] = x := by rw [List.getElem?_eq_getElem (by omega)] at hx; injection hx
  have hs : (stepP j x (opn P j) (matJ P j)).1 = false := by
    by_cases hk : okx x = true
    · rw [(step_same hk (opn_nn P j)).1]
      rcases hb with hb | hb
      · rw [hk] at hb; cases hb
      · exact hb
    · rw [stepP_not (by simpa using hk)]
  have hd : (stepP j x (opn P j) (matJ P j)).2.2.2 = (okx x && decide (x.k = 15)) := by
    by_cases hk : okx x = true
    · rw [stepP_deep2 hk hs, hk, Bool.true_and]
    · have hk' : okx x = false := by simpa using hk
      rw [stepP_not hk', hk']; rfl
  have hg : goP 0 P [] [] (List.replicate P.length (-1)) = ⟨(stepP j x (opn P j) (matJ P j)).2.1, tops P j ++ [topP (opn P j)], (stepP j x (opn P j) (matJ P j)).2.2.1, j, (stepP j x (opn P j) (matJ P j)).2.2.2⟩ := by
    rw [goP_at P j (by omega) hj, List.drop_eq_getElem_cons hlt, hx2, goP, hs]; rfl
  unfold thrA
  rw [if_neg (by omega)]
  unfold thr
  rw [hg]
  simp [hd]
theorem topP_ne {L : List (Int × Int)} (h : Nn L) : topP L ≠ (-1, 0) ↔ L ≠ [] := by
  constructor
  · rintro h1 rfl; exact h1 rfl
  · intro h1 h2
    have := h _ (topP_mem h1)
    rw [h2] at this; simp at this
theorem thr_open2 {P : List I4} (h1 : 1 ≤ P.length) (h5 : P.length ≤ 512) (hj : Okj P P.length) (ho : opn P P.length ≠ []) : (thrA P).bad = P.length ∧ (thrA P).deep = false := by
  unfold thrA
  rw [if_neg (by omega)]
  unfold thr
  rw [goP_end hj]
  have := (topP_ne (opn_nn P P.length)).2 ho
  simp [this]
theorem thr_full {P : List I4} (h1 : 1 ≤ P.length) (h5 : P.length ≤ 512) (hj : Okj P P.length) (ho : opn P P.length = []) :
    thrA P = ⟨[], tops P (P.length + 1), matJ P P.length, firstBad P.length (tops P (P.length + 1)) 0 P, false⟩ := by
  unfold thrA
  rw [if_neg (by omega)]
  unfold thr
  rw [goP_end hj, tops_succ, ho]
  simp [topP]
theorem firstBad_cases (n : Nat) (T : List (Int × Int)) : ∀ (L : List I4) (k : Nat), firstBad n T k L = -1 ∨ ∃ (t : Nat) (x : I4), L[t]? = some x ∧ firstBad n T k L = (k + t : Nat) ∧ isJ x.k = true := by
  intro L
  induction L with
  | nil => intro k; exact .inl rfl
  | cons y r ih =>
    intro k
    rw [firstBad]
    split
    · next h =>
      right
      refine ⟨0, y, rfl, rfl, ?_⟩
      cases hj : isJ y.k
      · rw [hj] at h; cases h
      · rfl
    · rcases ih (k + 1) with h | ⟨t, x, h1, h2, h3⟩
      · exact .inl h
      · exact .inr ⟨t + 1, x, by simpa using h1, by rw [h2]; congr 1; omega, h3⟩
theorem begin_only {x : I4} : (okx x && decide (x.k = 15)) = decide (x = ⟨15, 0, 0, 0⟩) := by
  rw [Bool.eq_iff_iff]
  simp only [Bool.and_eq_true, decide_eq_true_eq]
  constructor
  · rintro ⟨h, h15⟩
    obtain ⟨k, a, b, c⟩ := x
    simp only at h15
    subst h15
    have h2 : okI 15 a b c = true := by rw [← okZ_in (k := 15) (n := 15) rfl (by decide) (by decide)]; exact h
    simp [okI, fitsP, sA, sB, sC] at h2
    rw [h2.1.1, h2.1.2, h2.2]
  · rintro rfl
    exact ⟨by decide, rfl⟩
/-- what Check answers, by where something is wrong -/
theorem chk_by (P : List I4) : chkR (thrA P) = if (thrA P).bad < 0 then 0 else if (P.length ≤ 512 ∧ P[(thrA P).bad.toNat]? = some ⟨15, 0, 0, 0⟩) then 140 else 120 := by
  unfold chkR
  by_cases hb : (thrA P).bad < 0
  · rw [if_pos hb, if_pos hb]
  · rw [if_neg hb, if_neg hb]
    by_cases hl : P.length < 1 ∨ 512 < P.length
    · have e : thrA P = ⟨[], [], List.replicate P.length (-1), 0, false⟩ := by unfold thrA; rw [if_pos hl]
      rw [e]
      rw [if_neg (by simp), if_neg]
      rintro ⟨h2, h3⟩
      have := (List.getElem?_eq_some_iff.1 h3).1
      simp at this
      omega
    · rcases okj_or P P.length (Nat.le_refl _) with h | ⟨t, x, ht, h1, h2, h3⟩
      · by_cases ho : opn P P.length = []
        · have e := thr_full (by omega) (by omega) h ho
          rw [e]
          rw [e] at hb
          rw [if_neg (by simp), if_neg]
          rintro ⟨g2, g3⟩
          simp only at g3 hb
          rcases firstBad_cases P.length (tops P (P.length + 1)) P 0 with h | ⟨t, x, q1, q2, q3⟩
          · rw [h] at hb; exact hb (by decide)
          · rw [q2, Int.toNat_natCast, Nat.zero_add, q1] at g3
            cases g3
            simp [isJ] at q3
        · obtain ⟨e1, e2⟩ := thr_open2 (by omega) (by omega) h ho
          rw [e1, e2, if_neg (by decide), if_neg]
          rintro ⟨g2, g3⟩
          have := (List.getElem?_eq_some_iff.1 g3).1
          omega
      · obtain ⟨e1, e2⟩ := thr_stop (by omega) (by omega) h1 h2 h3
        rw [e1, e2, begin_only]
        by_cases hx : x = ⟨15, 0, 0, 0⟩
        · rw [if_pos (by simp [hx]), if_pos ⟨by omega, by rw [Int.toNat_natCast, h2, hx]⟩]
        · rw [if_neg (by simp [hx]), if_neg]
          rintro ⟨g2, g3⟩
          rw [Int.toNat_natCast, h2] at g3
          exact hx (by injection g3)
end Go.Proofs.Ytfobfcnbbafplaa
