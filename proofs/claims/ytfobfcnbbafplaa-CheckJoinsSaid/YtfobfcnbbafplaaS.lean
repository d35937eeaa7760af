/- The walk through a program: a step, whole. -/
import Derived.Test.YtfobfcnbbafplaaJ
namespace Go.Proofs.Ytfobfcnbbafplaa
open Go.RowKit
set_option linter.unusedVariables false
set_option linter.unusedSimpArgs false

/-- a step: is it right; the ways that are open behind it; the mates; is it too deep -/
def stepP (kn : Nat) (x : I4) (L : List (Int × Int)) (M : List Int) : Bool × List (Int × Int) × List Int × Bool :=
  if okx x = false then (false, L, M, false)
  else if x.k = 15 then (if 8 ≤ L.length then (false, L, M, true) else (true, L ++ [((kn : Int), 0)], M, false))
  else if x.k = 16 then (if (topP L).1 < 0 ∨ (topP L).2 = 1 then (false, L, M, false) else (true, L.dropLast ++ [((topP L).1, 1)], M.set (topP L).1.toNat kn, false))
  else if x.k = 17 then (if (topP L).1 < 0 then (false, L, M, false) else (true, L.dropLast, (M.set kn (topP L).1).set (if (topP L).2 = 1 then ((M.set kn (topP L).1).getD (topP L).1.toNat 0).toNat else (topP L).1.toNat) kn, false))
  else if x.k = 18 then (decide (0 ≤ (topP L).1), L, M, false)
  else if x.k = 20 then (decide ((topP L).1 < 0), L, M, false)
  else (true, L, M, false)
/-- what holds ahead of place kn -/
def Good (kn : Nat) (L : List (Int × Int)) (M : List Int) : Prop :=
  ∀ p ∈ L, ∃ j : Nat, p.1 = j ∧ j < kn ∧ (p.2 = 1 → ∃ q : Nat, M[j]? = some (q : Int) ∧ q < M.length)
theorem good_nil (M : List Int) : Good 0 [] M := fun p hp => by cases hp
theorem set_keeps {M : List Int} {j i q y : Nat} (h : M[j]? = some (q : Int)) (hq : q < M.length) (hy : y < M.length) : ∃ q' : Nat, (M.set i (y : Int))[j]? = some (q' : Int) ∧ q' < M.length := by
  by_cases e : i = j
  · subst e
    exact ⟨y, by rw [List.getElem?_set_self (List.getElem?_eq_some_iff.1 h).1], hy⟩
  · exact ⟨q, by rw [List.getElem?_set_ne e]; exact h, hq⟩
theorem Good.set {kn i y : Nat} {L : List (Int × Int)} {M : List Int} (h : Good kn L M) (hy : y < M.length) : Good kn L (M.set i (y : Int)) := fun p hp => by
  obtain ⟨j, h1, h2, h3⟩ := h p hp
  refine ⟨j, h1, h2, fun hw => ?_⟩
  obtain ⟨q, h4, h5⟩ := h3 hw
  simpa using set_keeps h4 h5 hy
theorem Good.succ {kn : Nat} {L : List (Int × Int)} {M : List Int} (h : Good kn L M) : Good (kn + 1) L M := fun p hp => by
  obtain ⟨j, h1, h2, h3⟩ := h p hp
  exact ⟨j, h1, by omega, h3⟩
theorem Good.part {kn : Nat} {L K : List (Int × Int)} {M : List Int} (h : Good kn L M) (hk : ∀ p ∈ K, p ∈ L) : Good kn K M := fun p hp => h p (hk p hp)
theorem Good.snoc {kn : Nat} {L : List (Int × Int)} {M : List Int} {p : Int × Int} (h : Good kn L M) (hp : ∃ j : Nat, p.1 = j ∧ j < kn ∧ (p.2 = 1 → ∃ q : Nat, M[j]? = some (q : Int) ∧ q < M.length)) : Good kn (L ++ [p]) M := fun p' hp' => by
  rcases List.mem_append.1 hp' with hh | hh
  · exact h p' hh
  · simp at hh; subst hh; exact hp
/-- the last way, where one is open -/
theorem good_last {kn : Nat} {L : List (Int × Int)} {M : List Int} (h : Good kn L M) : (L = [] ∧ (topP L).1 < 0) ∨ ∃ (R : List (Int × Int)) (j : Nat) (tw : Int), L = R ++ [((j : Int), tw)] ∧ topP L = ((j : Int), tw) ∧ L.dropLast = R ∧ 0 ≤ (topP L).1 ∧ j < kn ∧ (tw = 1 → ∃ q : Nat, M[j]? = some (q : Int) ∧ q < M.length) := by
  rcases List.eq_nil_or_concat L with rfl | ⟨R, p, rfl⟩
  · exact .inl ⟨rfl, by rw [topP_nil]; decide⟩
  · right
    rw [List.concat_eq_append] at *
    obtain ⟨j, h1, h2, h3⟩ := h p (by simp)
    obtain ⟨p1, p2⟩ := p
    simp only at h1 h3
    subst h1
    exact ⟨R, j, p2, rfl, topP_snoc _ _, by simp, by rw [topP_snoc]; exact Int.natCast_nonneg j, h2, h3⟩

theorem stepP_good {kn : Nat} {x : I4} {L : List (Int × Int)} {M : List Int} (h : Good kn L M) (hk : kn < M.length) :
    Good (kn + 1) (stepP kn x L M).2.1 (stepP kn x L M).2.2.1 ∧ (stepP kn x L M).2.2.1.length = M.length := by
  unfold stepP
  split
  · exact ⟨h.succ, rfl⟩
  · split
    · split
      · exact ⟨h.succ, rfl⟩
      · exact ⟨h.succ.snoc ⟨kn, rfl, by omega, fun e => by simp at e⟩, rfl⟩
    · split
      · split
        · exact ⟨h.succ, rfl⟩
        · rename_i hn
          rcases good_last h with ⟨_, h0⟩ | ⟨R, j, tw, rfl, ht, hd, h0, hj, _⟩
          · exact absurd (.inl h0) hn
          · rw [ht, hd]
            simp only [Int.toNat_natCast]
            refine ⟨((h.set hk).succ.part (fun p hp => by simp [hp])).snoc ⟨j, rfl, by omega, fun _ => ⟨kn, by rw [List.getElem?_set_self (by omega)], by simpa using hk⟩⟩, by simp⟩
      · split
        · split
          · exact ⟨h.succ, rfl⟩
          · rename_i hn
            rcases good_last h with ⟨_, h0⟩ | ⟨R, j, tw, rfl, ht, hd, h0, hj, _⟩
            · exact absurd h0 hn
            · rw [ht, hd]
              exact ⟨(((h.set (by omega)).set (by simpa using hk)).succ.part (fun p hp => by simp [hp])), by simp⟩
        · split
          · exact ⟨h.succ, rfl⟩
          · split
            · exact ⟨h.succ, rfl⟩
            · exact ⟨h.succ, rfl⟩

theorem step_any (B b : Nat) (L T : List (Int × Int)) (M : List Int) (bad : Int) (deep : Bool) (x : I4) (kn : Nat) (w : World) (h : Wk w B b L T M bad deep) (hg : Good kn L M) (hk : kn < M.length) :
    Calls Try.prog 36 #[.pointer (some ⟨b, 0, none⟩), .int .i64 kn, .agg #[.int .i64 x.k, .int .i64 x.a, .int .i64 x.b, .int .i64 x.c]] w fun e w' =>
      StepP B b w w' e (stepP kn x L M).1 (stepP kn x L M).2.1 T (stepP kn x L M).2.2.1 bad (deep || (stepP kn x L M).2.2.2) := by
  obtain ⟨xk, xa, xb, xc⟩ := x
  obtain ⟨m, hm⟩ : ∃ m, M[kn]? = some m := ⟨_, List.getElem?_eq_getElem hk⟩
  unfold stepP
  simp only
  split
  · rename_i ho
    simp only [Bool.or_false]
    exact step_not _ _ _ _ _ _ _ _ _ _ _ _ _ h ho
  · rename_i ho
    have ho : okx ⟨xk, xa, xb, xc⟩ = true := by simpa using ho
    split
    · rename_i hk
      subst hk
      split
      · simp only [Bool.or_true]
        exact step_full _ _ _ _ _ _ _ _ _ _ _ _ h ho (by assumption)
      · simp only [Bool.or_false]
        exact step_begin _ _ _ _ _ _ _ _ _ _ _ _ h ho (by omega)
    · split
      · rename_i hk
        subst hk
        split
        · rename_i hor
          simp only [Bool.or_false]
          by_cases h0 : (topP L).1 < 0
          · exact step_else_none _ _ _ _ _ _ _ _ _ _ _ _ h ho h0
          · exact step_else_one _ _ _ _ _ _ _ _ _ _ _ _ h ho (by omega) (hor.resolve_left h0)
        · rename_i hor
          simp only [Bool.or_false]
          rcases good_last hg with ⟨_, h0⟩ | ⟨R, j, tw, rfl, ht, hd, h0, hj, _⟩
          · exact absurd (.inl h0) hor
          · rw [ht] at hor
            rw [ht, hd]
            simp only [Int.toNat_natCast]
            obtain ⟨mj, hmj⟩ : ∃ m, M[j]? = some m := ⟨_, List.getElem?_eq_getElem (by omega)⟩
            exact step_else _ _ _ _ _ _ _ _ _ _ _ _ _ _ h ho _ hmj (fun e => hor (.inr e))
      · split
        · rename_i hk
          subst hk
          split
          · rename_i h0
            simp only [Bool.or_false]
            exact step_end_none _ _ _ _ _ _ _ _ _ _ _ _ h ho h0
          · rename_i hn
            simp only [Bool.or_false]
            rcases good_last hg with ⟨_, h0⟩ | ⟨R, j, tw, rfl, ht, hd, h0, hj, hq⟩
            · exact absurd h0 hn
            · rw [ht, hd]
              simp only [Int.toNat_natCast]
              obtain ⟨mj, hmj⟩ : ∃ m, M[j]? = some m := ⟨_, List.getElem?_eq_getElem (by omega)⟩
              by_cases htw : tw = 1
              · subst htw
                obtain ⟨q, hq1, hq2⟩ := hq rfl
                obtain ⟨q', hq3, hq4⟩ := set_keeps (i := kn) (y := j) hq1 hq2 (by omega)
                rw [if_pos rfl, List.getD_eq_getElem?_getD, hq3]
                simp only [Option.getD_some, Int.toNat_natCast]
                exact step_end_one _ _ _ _ _ _ _ _ _ _ _ _ _ h ho _ _ hm hmj q' hq3 hq4
              · rw [if_neg htw]
                exact step_end_zero _ _ _ _ _ _ _ _ _ _ _ _ _ _ h ho _ _ hm hmj htw
        · split
          · rename_i hk
            subst hk
            simp only [Bool.or_false]
            by_cases h0 : (topP L).1 < 0
            · rw [show decide (0 ≤ (topP L).1) = false by simp; omega]
              exact step_retry_none _ _ _ _ _ _ _ _ _ _ _ _ h ho h0
            · rw [show decide (0 ≤ (topP L).1) = true by simp; omega]
              exact step_retry_some _ _ _ _ _ _ _ _ _ _ _ _ h ho (by omega)
          · split
            · rename_i hk
              subst hk
              simp only [Bool.or_false]
              by_cases h0 : (topP L).1 < 0
              · rw [show decide ((topP L).1 < 0) = true by simp; omega]
                exact step_halt_none _ _ _ _ _ _ _ _ _ _ _ _ h ho h0
              · rw [show decide ((topP L).1 < 0) = false by simp; omega]
                exact step_halt_some _ _ _ _ _ _ _ _ _ _ _ _ h ho (by omega)
            · simp only [Bool.or_false]
              exact step_other _ _ _ _ _ _ _ _ _ _ _ _ _ h ho ⟨by assumption, by assumption, by assumption, by assumption, by assumption⟩
end Go.Proofs.Ytfobfcnbbafplaa
