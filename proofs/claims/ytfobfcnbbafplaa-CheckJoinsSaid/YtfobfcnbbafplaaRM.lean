/- The mates: plain facts. -/
import Derived.Test.YtfobfcnbbafplaaKB
namespace Go.Proofs.Ytfobfcnbbafplaa
open Go.RowKit
set_option linter.unusedVariables false
set_option linter.unusedSimpArgs false

def kd (P : List I4) (s : Nat) : Int := (P[s]?.map I4.k).getD 0
theorem kd_at {P : List I4} {s : Nat} {x : I4} (h : P[s]? = some x) : kd P s = x.k := by unfold kd; rw [h]; rfl
theorem snoc_of {L : List (Int × Int)} (h : L ≠ []) : L = L.dropLast ++ [topP L] := by
  rcases List.eq_nil_or_concat L with rfl | ⟨R, p, rfl⟩
  · exact absurd rfl h
  · rw [List.concat_eq_append, topP_snoc]; simp
theorem step_cases {P : List I4} {j : Nat} {x : I4} (hj : Okj P (j + 1)) (hx : P[j]? = some x) :
    (kd P j = 15 ∧ opn P (j + 1) = opn P j ++ [((j : Int), 0)] ∧ matJ P (j + 1) = matJ P j)
    ∨ (kd P j = 16 ∧ ∃ (R : List (Int × Int)) (b w : Int), opn P j = R ++ [(b, w)] ∧ w ≠ 1 ∧ opn P (j + 1) = R ++ [(b, 1)] ∧ matJ P (j + 1) = (matJ P j).set b.toNat j)
    ∨ (kd P j = 17 ∧ ∃ (R : List (Int × Int)) (b w : Int), opn P j = R ++ [(b, w)] ∧ opn P (j + 1) = R ∧ matJ P (j + 1) = ((matJ P j).set j b).set (if w = 1 then (((matJ P j).set j b).getD b.toNat 0).toNat else b.toNat) j)
    ∨ (kd P j ≠ 15 ∧ kd P j ≠ 16 ∧ kd P j ≠ 17 ∧ opn P (j + 1) = opn P j ∧ matJ P (j + 1) = matJ P j) := by
  obtain ⟨hok, hst⟩ := hj j x (by omega) hx
  have hm : matJ P (j + 1) = (stepP j x (opn P j) (matJ P j)).2.2.1 := by rw [matJ, hx]
  have ht := top_neg (opn_nn P j)
  rw [hm, opn_succ hx, kd_at hx]
  unfold rstep at hst
  unfold stepP rstep
  rw [if_neg (show ¬ okx x = false by simp [hok])]
  by_cases h15 : x.k = 15
  · simp only [if_pos h15] at hst ⊢
    left
    split
    · next hh => rw [if_pos hh] at hst; cases hst
    · exact ⟨h15, rfl, rfl⟩
  simp only [if_neg h15] at hst ⊢
  by_cases h16 : x.k = 16
  · simp only [if_pos h16] at hst ⊢
    right; left
    by_cases hh : opn P j = [] ∨ (topP (opn P j)).2 = 1
    · rw [if_pos hh] at hst; cases hst
    · have hh2 : ¬ ((topP (opn P j)).1 < 0 ∨ (topP (opn P j)).2 = 1) := by rw [ht]; exact hh
      rw [if_neg hh2, if_neg hh]
      have hne : opn P j ≠ [] := fun e => hh (.inl e)
      exact ⟨h16, (opn P j).dropLast, (topP (opn P j)).1, (topP (opn P j)).2, snoc_of hne, fun e => hh (.inr e), rfl, rfl⟩
  simp only [if_neg h16] at hst ⊢
  by_cases h17 : x.k = 17
  · simp only [if_pos h17] at hst ⊢
    right; right; left
    by_cases hh : opn P j = []
    · rw [if_pos hh] at hst; cases hst
    · rw [if_neg (fun h => hh (ht.1 h)), if_neg hh]
      exact ⟨h17, (opn P j).dropLast, (topP (opn P j)).1, (topP (opn P j)).2, snoc_of hh, rfl, rfl⟩
  simp only [if_neg h17] at hst ⊢
  right; right; right
  refine ⟨h15, h16, h17, ?_, ?_⟩
  · split
    · rfl
    · split <;> rfl
  · split
    · rfl
    · split <;> rfl

structure InvM (P : List I4) (j : Nat) : Prop where
  len : (matJ P j).length = P.length
  N : ∀ s, s < P.length → (j ≤ s ∨ (kd P s ≠ 15 ∧ kd P s ≠ 16 ∧ kd P s ≠ 17)) → (matJ P j)[s]? = some (-1)
  U : (opn P j).Pairwise (fun p q => p.1 < q.1)
  O : ∀ p ∈ opn P j, ∃ b : Nat, p.1 = b ∧ b < j ∧ kd P b = 15 ∧ (p.2 = 0 ∨ (p.2 = 1 ∧ ∃ e : Nat, e < j ∧ (matJ P j)[b]? = some (e : Int) ∧ kd P e = 16 ∧ (topP (opn P e)).1 = b))
  W : ∀ s, s < j → kd P s = 16 → ((topP (opn P s)).1, 0) ∉ opn P j ∧ ∃ b : Nat, (topP (opn P s)).1 = b ∧ b < s ∧ kd P b = 15 ∧ (matJ P j)[b]? = some (s : Int)
  Z : ∀ s, s < j → kd P s = 17 → ∀ w, ((topP (opn P s)).1, w) ∉ opn P j
  D : ∀ s, s < j → kd P s = 17 → ∃ b : Nat, (topP (opn P s)).1 = b ∧ b < s ∧ kd P b = 15 ∧ (matJ P j)[s]? = some (b : Int) ∧ (((topP (opn P s)).2 = 0 ∧ (matJ P j)[b]? = some (s : Int)) ∨ ((topP (opn P s)).2 = 1 ∧ ∃ e : Nat, e < s ∧ (matJ P j)[b]? = some (e : Int) ∧ kd P e = 16 ∧ (topP (opn P e)).1 = b ∧ (matJ P j)[e]? = some (s : Int)))

theorem invM (P : List I4) : ∀ j, j ≤ P.length → Okj P j → InvM P j := fun j => by
  induction j with
  | zero =>
    intro _ _
    refine ⟨by simp [matJ], fun s hs _ => ?_, List.Pairwise.nil, fun p hp => (by cases hp), fun s h => absurd h (Nat.not_lt_zero _), fun s h => absurd h (Nat.not_lt_zero _), fun s h => absurd h (Nat.not_lt_zero _)⟩
    simp [matJ, hs]
  | succ j ih =>
    intro hjl hok
    have I := ih (by omega) (fun t x ht hx => hok t x (by omega) hx)
    obtain ⟨x, hx⟩ : ∃ x, P[j]? = some x := ⟨P[j], List.getElem?_eq_getElem (by omega)⟩
    rcases step_cases hok hx with ⟨hk, hS, hM⟩ | ⟨hk, R, b0, w, hS0, hw, hS, hM⟩ | ⟨hk, R, b0, w, hS0, hS, hM⟩ | ⟨hk1, hk2, hk3, hS, hM⟩
    · -- begin
      refine ⟨by rw [hM]; exact I.len, fun s hs h => ?_, ?_, fun p hp => ?_, fun s hs h16 => ?_, fun s hs h17 v => ?_, fun s hs h17 => ?_⟩
      · rw [hM]; exact I.N s hs (by rcases h with h | h; exact .inl (by omega); exact .inr h)
      · rw [hS, List.pairwise_append]
        refine ⟨I.U, List.pairwise_singleton _ _, fun p hp q hq => ?_⟩
        obtain ⟨b, h1, h2, _⟩ := I.O p hp
        simp at hq; subst hq; simp only; omega
      · rw [hS] at hp
        rcases List.mem_append.1 hp with hp | hp
        · obtain ⟨b, h1, h2, h3, h4⟩ := I.O p hp
          refine ⟨b, h1, by omega, h3, ?_⟩
          rcases h4 with h4 | ⟨h4, e, h5, h6, h7, h8⟩
          · exact .inl h4
          · exact .inr ⟨h4, e, by omega, by rw [hM]; exact h6, h7, h8⟩
        · simp at hp; subst hp; exact ⟨j, rfl, by omega, hk, .inl rfl⟩
      · have hsj : s ≠ j := by rintro rfl; omega
        obtain ⟨h1, b, h2, h3, h4, h5⟩ := I.W s (by omega) h16
        refine ⟨?_, b, h2, h3, h4, by rw [hM]; exact h5⟩
        rw [hS]
        intro hm
        rcases List.mem_append.1 hm with hm | hm
        · exact h1 hm
        · simp at hm; omega
      · have hsj : s ≠ j := by rintro rfl; omega
        obtain ⟨b, h2, h3, _⟩ := I.D s (by omega) h17
        rw [hS]
        intro hm
        rcases List.mem_append.1 hm with hm | hm
        · exact I.Z s (by omega) h17 v hm
        · simp at hm; omega
      · have hsj : s ≠ j := by rintro rfl; omega
        rw [hM]; exact I.D s (by omega) h17
    · -- else
      obtain ⟨b, hb, hbj, hb15, hbw⟩ := I.O (b0, w) (by rw [hS0]; simp)
      simp only at hb hbw
      subst hb
      have hw0 : w = 0 := by rcases hbw with h | ⟨h, _⟩; exact h; exact absurd h hw
      subst hw0
      have htop : topP (opn P j) = ((b : Int), 0) := by rw [hS0, topP_snoc]
      rw [Int.toNat_natCast] at hM
      have hU := I.U
      rw [hS0, List.pairwise_append] at hU
      have hRb : ∀ p ∈ R, p.1 < (b : Int) := fun p hp => hU.2.2 p hp ((b : Int), 0) (by simp)
      have hne : ∀ s, s ≠ b → (matJ P (j + 1))[s]? = (matJ P j)[s]? := fun s hs => by rw [hM, List.getElem?_set_ne (by omega)]
      have hbl : b < (matJ P j).length := by rw [I.len]; omega
      refine ⟨by rw [hM, List.length_set]; exact I.len, fun s hs h => ?_, ?_, fun p hp => ?_, fun s hs h16 => ?_, fun s hs h17 v => ?_, fun s hs h17 => ?_⟩
      · have : s ≠ b := by rintro rfl; rcases h with h | h; omega; exact h.1 hb15
        rw [hne s this]; exact I.N s hs (by rcases h with h | h; exact .inl (by omega); exact .inr h)
      · rw [hS, List.pairwise_append]
        refine ⟨hU.1, List.pairwise_singleton _ _, fun p hp q hq => ?_⟩
        simp at hq; subst hq; exact hRb p hp
      · rw [hS] at hp
        rcases List.mem_append.1 hp with hp | hp
        · obtain ⟨b', h1, h2, h3, h4⟩ := I.O p (by rw [hS0]; exact List.mem_append_left _ hp)
          have := hRb p hp
          refine ⟨b', h1, by omega, h3, ?_⟩
          rcases h4 with h4 | ⟨h4, e, h5, h6, h7, h8⟩
          · exact .inl h4
          · exact .inr ⟨h4, e, by omega, by rw [hne b' (by omega)]; exact h6, h7, h8⟩
        · simp at hp; subst hp
          exact ⟨b, rfl, by omega, hb15, .inr ⟨rfl, j, by omega, by rw [hM, List.getElem?_set_self hbl], hk, by rw [htop]⟩⟩
      · by_cases hsj : s = j
        · subst hsj
          rw [htop]
          refine ⟨?_, b, rfl, hbj, hb15, by rw [hM, List.getElem?_set_self hbl]⟩
          rw [hS]
          intro hm
          rcases List.mem_append.1 hm with hm | hm
          · have := hRb _ hm; simp at this
          · simp at hm
        · obtain ⟨h1, b', h2, h3, h4, h5⟩ := I.W s (by omega) h16
          have hbb : b' ≠ b := by
            rintro rfl
            rw [h2, hS0] at h1
            exact h1 (by simp)
          refine ⟨?_, b', h2, h3, h4, by rw [hne b' hbb]; exact h5⟩
          rw [hS]
          intro hm
          rcases List.mem_append.1 hm with hm | hm
          · exact h1 (by rw [hS0]; exact List.mem_append_left _ hm)
          · simp at hm
      · have hsj : s ≠ j := by rintro rfl; omega
        rw [hS]
        intro hm
        rcases List.mem_append.1 hm with hm | hm
        · exact I.Z s (by omega) h17 v (by rw [hS0]; exact List.mem_append_left _ hm)
        · simp at hm
          exact I.Z s (by omega) h17 0 (by rw [hS0, hm.1]; simp)
      · have hsj : s ≠ j := by rintro rfl; omega
        obtain ⟨b', h2, h3, h4, h5, h6⟩ := I.D s (by omega) h17
        have hbb : b' ≠ b := by
          rintro rfl
          exact I.Z s (by omega) h17 0 (by rw [hS0, h2]; simp)
        have hsb : s ≠ b := by rintro rfl; omega
        refine ⟨b', h2, h3, h4, by rw [hne s hsb]; exact h5, ?_⟩
        rcases h6 with ⟨h6, h7⟩ | ⟨h6, e, h7, h8, h9, h10, h11⟩
        · exact .inl ⟨h6, by rw [hne b' hbb]; exact h7⟩
        · exact .inr ⟨h6, e, h7, by rw [hne b' hbb]; exact h8, h9, h10, by rw [hne e (by rintro rfl; omega)]; exact h11⟩
    · -- end
      obtain ⟨b, hb, hbj, hb15, hbw⟩ := I.O (b0, w) (by rw [hS0]; simp)
      simp only at hb hbw
      subst hb
      have htop : topP (opn P j) = ((b : Int), w) := by rw [hS0, topP_snoc]
      rw [Int.toNat_natCast] at hM
      have hU := I.U
      rw [hS0, List.pairwise_append] at hU
      have hRb : ∀ p ∈ R, p.1 < (b : Int) := fun p hp => hU.2.2 p hp ((b : Int), w) (by simp)
      -- the place that is turned besides
      obtain ⟨q, hMq, hq⟩ : ∃ q : Nat, matJ P (j + 1) = ((matJ P j).set j (b : Int)).set q j ∧ ((w = 0 ∧ q = b) ∨ (w = 1 ∧ q < j ∧ (matJ P j)[b]? = some (q : Int) ∧ kd P q = 16 ∧ (topP (opn P q)).1 = b)) := by
        rcases hbw with h | ⟨h, e, h5, h6, h7, h8⟩
        · exact ⟨b, by rw [hM, if_neg (by omega)], .inl ⟨h, rfl⟩⟩
        · refine ⟨e, ?_, .inr ⟨h, h5, h6, h7, h8⟩⟩
          rw [hM, if_pos h, List.getD, List.getElem?_set_ne (by omega), h6]; rfl
      have hq2 : q < j ∧ kd P q ≠ 17 := by
        rcases hq with ⟨_, rfl⟩ | ⟨_, h, _, h2, _⟩
        · exact ⟨hbj, by omega⟩
        · exact ⟨h, by omega⟩
      have hne : ∀ s, s ≠ j → s ≠ q → (matJ P (j + 1))[s]? = (matJ P j)[s]? := fun s h1 h2 => by rw [hMq, List.getElem?_set_ne (by omega), List.getElem?_set_ne (by omega)]
      have hatj : (matJ P (j + 1))[j]? = some (b : Int) := by rw [hMq, List.getElem?_set_ne (by omega), List.getElem?_set_self (by rw [I.len]; omega)]
      have hatq : (matJ P (j + 1))[q]? = some (j : Int) := by rw [hMq, List.getElem?_set_self (by rw [List.length_set, I.len]; omega)]
      have hqk : ∀ s, kd P s ≠ 15 → kd P s ≠ 16 → s ≠ q := fun s h1 h2 => by
        rintro rfl
        rcases hq with ⟨_, rfl⟩ | ⟨_, _, _, h, _⟩
        · exact h1 hb15
        · exact h2 h
      have hqb : ∀ s, kd P s = 15 → s ≠ b → s ≠ q := fun s h1 h2 => by
        rintro rfl
        rcases hq with ⟨_, h⟩ | ⟨_, _, _, h, _⟩
        · exact h2 h
        · omega
      refine ⟨by rw [hMq, List.length_set, List.length_set]; exact I.len, fun s hs h => ?_, ?_, fun p hp => ?_, fun s hs h16 => ?_, fun s hs h17 v => ?_, fun s hs h17 => ?_⟩
      · have h1 : s ≠ j := by rintro rfl; rcases h with h | h; omega; exact h.2.2 hk
        have h2 : s ≠ q := by
          rcases h with h | h
          · omega
          · exact hqk s h.1 h.2.1
        rw [hne s h1 h2]; exact I.N s hs (by rcases h with h | h; exact .inl (by omega); exact .inr h)
      · rw [hS]; exact hU.1
      · rw [hS] at hp
        obtain ⟨b', h1, h2, h3, h4⟩ := I.O p (by rw [hS0]; exact List.mem_append_left _ hp)
        have := hRb p hp
        refine ⟨b', h1, by omega, h3, ?_⟩
        rcases h4 with h4 | ⟨h4, e, h5, h6, h7, h8⟩
        · exact .inl h4
        · exact .inr ⟨h4, e, by omega, by rw [hne b' (by omega) (hqb b' h3 (by omega))]; exact h6, h7, h8⟩
      · have hsj : s ≠ j := by rintro rfl; omega
        obtain ⟨h1, b', h2, h3, h4, h5⟩ := I.W s (by omega) h16
        refine ⟨by rw [hS]; exact fun hm => h1 (by rw [hS0]; exact List.mem_append_left _ hm), b', h2, h3, h4, ?_⟩
        have : b' ≠ q := by
          rintro rfl
          rcases hq with ⟨h6, rfl⟩ | ⟨_, _, _, h, _⟩
          · rw [h2, hS0, h6] at h1
            exact h1 (by simp)
          · omega
        rw [hne b' (by omega) this]; exact h5
      · by_cases hsj : s = j
        · subst hsj
          rw [htop, hS]
          intro hm
          have := hRb _ hm; simp at this
        · rw [hS]
          exact fun hm => I.Z s (by omega) h17 v (by rw [hS0]; exact List.mem_append_left _ hm)
      · by_cases hsj : s = j
        · subst hsj
          rw [htop]
          refine ⟨b, rfl, hbj, hb15, hatj, ?_⟩
          rcases hq with ⟨h6, rfl⟩ | ⟨h6, h7, h8, h9, h10⟩
          · exact .inl ⟨h6, hatq⟩
          · exact .inr ⟨h6, q, h7, by rw [hne b (by omega) (by rintro rfl; omega)]; exact h8, h9, h10, hatq⟩
        · have hs2 : s < j := Nat.lt_of_le_of_ne (Nat.le_of_lt_succ hs) hsj
          obtain ⟨b', h2, h3, h4, h5, h6⟩ := I.D s hs2 h17
          have hbb : b' ≠ b := by
            rintro rfl
            exact I.Z s hs2 h17 w (by rw [hS0, h2]; simp)
          have hb'q := hqb b' h4 hbb
          refine ⟨b', h2, h3, h4, by rw [hne s hsj (hqk s (by omega) (by omega))]; exact h5, ?_⟩
          rcases h6 with ⟨h6, h7⟩ | ⟨h6, e, h7, h8, h9, h10, h11⟩
          · exact .inl ⟨h6, by rw [hne b' (by omega) hb'q]; exact h7⟩
          · refine .inr ⟨h6, e, h7, by rw [hne b' (by omega) hb'q]; exact h8, h9, h10, ?_⟩
            have : e ≠ q := by
              rintro rfl
              rcases hq with ⟨_, he⟩ | ⟨_, _, _, _, h⟩
              · rw [he, hb15] at h9; exact absurd h9 (by decide)
              · rw [h] at h10; exact hbb (Int.ofNat.inj h10).symm
            rw [hne e (by omega) this]; exact h11
    · -- other
      refine ⟨by rw [hM]; exact I.len, fun s hs h => ?_, by rw [hS]; exact I.U, fun p hp => ?_, fun s hs h16 => ?_, fun s hs h17 v => ?_, fun s hs h17 => ?_⟩
      · rw [hM]; exact I.N s hs (by rcases h with h | h; exact .inl (by omega); exact .inr h)
      · rw [hS] at hp
        obtain ⟨b, h1, h2, h3, h4⟩ := I.O p hp
        refine ⟨b, h1, by omega, h3, ?_⟩
        rcases h4 with h4 | ⟨h4, e, h5, h6, h7, h8⟩
        · exact .inl h4
        · exact .inr ⟨h4, e, by omega, by rw [hM]; exact h6, h7, h8⟩
      · have hsj : s ≠ j := by rintro rfl; exact hk2 h16
        rw [hS, hM]; exact I.W s (by omega) h16
      · have hsj : s ≠ j := by rintro rfl; exact hk3 h17
        rw [hS]; exact I.Z s (by omega) h17 v
      · have hsj : s ≠ j := by rintro rfl; exact hk3 h17
        rw [hM]; exact I.D s (by omega) h17
end Go.Proofs.Ytfobfcnbbafplaa
