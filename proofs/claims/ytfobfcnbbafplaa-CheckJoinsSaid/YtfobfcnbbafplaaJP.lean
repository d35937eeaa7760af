/- Two programs, one behind the other: plain facts. -/
import Derived.Test.YtfobfcnbbafplaaRE
namespace Go.Proofs.Ytfobfcnbbafplaa
open Go.RowKit
set_option linter.unusedVariables false
set_option linter.unusedSimpArgs false

/-- an instruction with its jump turned -/
def aimx (t : Int) (x : I4) : I4 := if x.k = 8 then ⟨x.k, t, x.b, x.c⟩ else if x.k = 9 then ⟨x.k, x.a, t, x.c⟩ else x
theorem aimx_k (t : Int) (x : I4) : (aimx t x).k = x.k := by unfold aimx; split; rfl; split <;> rfl
theorem aimx_tgt (t : Int) (x : I4) (h : isJ x.k = true) : tgt (aimx t x).k (aimx t x).a (aimx t x).b = t := by
  have h8 : x.k = 8 ∨ x.k = 9 := by simpa [isJ] using h
  rw [aimx_k]
  unfold aimx tgt
  rcases h8 with h8 | h8 <;> simp [h8]
def shx (n : Int) (x : I4) : I4 := aimx (tgt x.k x.a x.b + n) x
theorem shx_k (n : Int) (x : I4) : (shx n x).k = x.k := aimx_k _ _
theorem shx_not {n : Int} {x : I4} (h : isJ x.k = false) : shx n x = x := by
  have h8 : ¬ (x.k = 8 ∨ x.k = 9) := by simpa [isJ] using h
  unfold shx aimx
  rw [if_neg (fun e => h8 (.inl e)), if_neg (fun e => h8 (.inr e))]
theorem shx_ok {n : Int} {x : I4} (h : okx x = true) (h0 : 0 ≤ n) (hj : isJ x.k = true → tgt x.k x.a x.b + n ≤ 512) : okx (shx n x) = true := by
  cases hjj : isJ x.k
  · rw [shx_not hjj]; exact h
  · obtain ⟨t, ht, _⟩ := tgt_in h hjj
    have hle := hj hjj
    obtain ⟨k, a, b, c⟩ := x
    have h8 : k = 8 ∨ k = 9 := by simpa [isJ] using hjj
    rcases h8 with rfl | rfl
    · have h2 : okI 8 a b c = true := by rw [← okZ_in (k := 8) (n := 8) rfl (by decide) (by decide)]; exact h
      have ht2 : a = t := by simpa [tgt] using ht
      have e : shx n ⟨8, a, b, c⟩ = ⟨8, a + n, b, c⟩ := by simp [shx, aimx, tgt]
      rw [e]
      show okZ 8 (a + n) b c = true
      rw [okZ_in (k := 8) (n := 8) rfl (by decide) (by decide)]
      have hle2 : a + n ≤ 512 := by simpa [tgt] using hle
      simp [okI, fitsP, sA, sB, sC] at h2 ⊢
      refine ⟨⟨by omega, h2.1.2⟩, h2.2⟩
    · have h2 : okI 9 a b c = true := by rw [← okZ_in (k := 9) (n := 9) rfl (by decide) (by decide)]; exact h
      have ht2 : b = t := by simpa [tgt] using ht
      have e : shx n ⟨9, a, b, c⟩ = ⟨9, a, b + n, c⟩ := by simp [shx, aimx, tgt]
      rw [e]
      show okZ 9 a (b + n) c = true
      rw [okZ_in (k := 9) (n := 9) rfl (by decide) (by decide)]
      have hle2 : b + n ≤ 512 := by simpa [tgt] using hle
      simp [okI, fitsP, sA, sB, sC] at h2 ⊢
      refine ⟨⟨h2.1.1, by omega⟩, h2.2⟩

/-- a way, moved along -/
def sh (n : Int) (p : Int × Int) : Int × Int := (p.1 + n, p.2)
theorem topP_sh (n : Int) {L : List (Int × Int)} (h : L ≠ []) : topP (L.map (sh n)) = sh n (topP L) := by
  rcases List.eq_nil_or_concat L with rfl | ⟨R, p, rfl⟩
  · exact absurd rfl h
  · rw [List.concat_eq_append, List.map_append, List.map_singleton, topP_snoc, topP_snoc]
theorem dropLast_sh (n : Int) (L : List (Int × Int)) : (L.map (sh n)).dropLast = L.dropLast.map (sh n) := (List.map_dropLast).symm
theorem rstep_sh (kn n k : Int) (L : List (Int × Int)) : rstep (kn + n) k (L.map (sh n)) = ((rstep kn k L).1, (rstep kn k L).2.map (sh n)) := by
  unfold rstep
  by_cases h15 : k = 15
  · simp only [if_pos h15, List.length_map]
    split
    · rfl
    · simp [sh]
  simp only [if_neg h15]
  by_cases h16 : k = 16
  · simp only [if_pos h16]
    by_cases hL : L = []
    · subst hL; simp
    · have e : (topP (L.map (sh n))) = sh n (topP L) := topP_sh n hL
      have hm : ¬ L.map (sh n) = [] := by simpa using hL
      rw [e]
      by_cases h1 : (topP L).2 = 1
      · rw [if_pos (.inr h1), if_pos (.inr h1)]
      · rw [if_neg (by rintro (h | h); exact hm h; exact h1 h), if_neg (by rintro (h | h); exact hL h; exact h1 h), dropLast_sh]
        simp [sh]
  simp only [if_neg h16]
  by_cases h17 : k = 17
  · simp only [if_pos h17]
    by_cases hL : L = []
    · subst hL; simp
    · rw [if_neg (by simpa using hL), if_neg hL, dropLast_sh]
  simp only [if_neg h17, List.length_map]
  split
  · rfl
  · split <;> rfl
theorem topP_shs {n : Int} {L M : List (Int × Int)} (hL : Nn L) (hM : Nn M) (h : topP L = topP M) : topP (L.map (sh n)) = topP (M.map (sh n)) := by
  by_cases h1 : L = []
  · have h2 : M = [] := by
      by_cases h2 : M = []
      · exact h2
      · exact absurd (by rw [← h, h1]; rfl) ((topP_ne hM).2 h2)
    rw [h1, h2]
  · have h2 : M ≠ [] := fun h2 => (topP_ne hL).2 h1 (by rw [h, h2]; rfl)
    rw [topP_sh n h1, topP_sh n h2, h]
theorem firstBad_all (n : Nat) (T : List (Int × Int)) : ∀ (L : List I4) (k : Nat), (∀ t x, L[t]? = some x → isJ x.k = true → ¬ (n : Int) < tgt x.k x.a x.b ∧ T.getD (tgt x.k x.a x.b).toNat (0, 0) = T.getD (k + t) (0, 0)) → firstBad n T k L = -1 := by
  intro L
  induction L with
  | nil => intro k _; rfl
  | cons y r ih =>
    intro k h
    rw [firstBad, if_neg, ih (k + 1) (fun t x ht hj => by
      have := h (t + 1) x (by simpa using ht) hj
      rw [show k + 1 + t = k + (t + 1) by omega]; exact this)]
    intro hc
    rw [Bool.and_eq_true] at hc
    obtain ⟨hc1, hc2⟩ := hc
    obtain ⟨g1, g2⟩ := h 0 y rfl hc1
    rw [Nat.add_zero] at g2
    rw [g2] at hc2
    simp [g1] at hc2

section
variable {P Q : List I4} (hP : (thrA P).bad < 0) (hQ : (thrA Q).bad < 0) (hp : P.length ≤ 60) (hq : Q.length ≤ 60)
def join (P Q : List I4) : List I4 := P ++ Q.map (shx P.length)
theorem join_len (P Q : List I4) : (join P Q).length = P.length + Q.length := by simp [join]
theorem join_l {t : Nat} (h : t < P.length) : (join P Q)[t]? = P[t]? := by unfold join; rw [List.getElem?_append_left h]
theorem join_r (t : Nat) : (join P Q)[P.length + t]? = (Q[t]?).map (shx P.length) := by
  unfold join; rw [List.getElem?_append_right (by omega), Nat.add_sub_cancel_left, List.getElem?_map]
theorem opn_l (P Q : List I4) : ∀ t, t ≤ P.length → opn (join P Q) t = opn P t := fun t => by
  induction t with
  | zero => exact fun _ => rfl
  | succ t ih =>
    intro h
    have hx : P[t]? = some P[t] := List.getElem?_eq_getElem (by omega)
    rw [opn_succ hx, opn_succ ((join_l (by omega)).trans hx), ih (by omega)]
include hP in
theorem opn_r : ∀ t, t ≤ Q.length → opn (join P Q) (P.length + t) = (opn Q t).map (sh P.length) := fun t => by
  induction t with
  | zero =>
    intro _
    rw [Nat.add_zero, opn_l P Q _ (Nat.le_refl _), (thr_acc hP).2.2.2.1]; rfl
  | succ t ih =>
    intro h
    have hx : Q[t]? = some Q[t] := List.getElem?_eq_getElem (by omega)
    have hx2 : (join P Q)[P.length + t]? = some (shx P.length Q[t]) := by rw [join_r, hx]; rfl
    rw [← Nat.add_assoc, opn_succ hx2, ih (by omega), opn_succ hx, shx_k]
    have := rstep_sh (t : Int) (P.length : Int) Q[t].k (opn Q t)
    rw [show ((P.length + t : Nat) : Int) = (t : Int) + (P.length : Int) by omega, this]
theorem kd_l {t : Nat} (h : t < P.length) : kd (join P Q) t = kd P t := by unfold kd; rw [join_l h]
theorem kd_r (t : Nat) : kd (join P Q) (P.length + t) = kd Q t := by
  unfold kd; rw [join_r]
  cases Q[t]? with
  | none => rfl
  | some x => simp [shx_k]
include hP hQ hp hq
theorem okj_join : Okj (join P Q) (join P Q).length := fun t x ht hx => by
  obtain ⟨_, _, okP, _, fP, _⟩ := thr_acc hP
  obtain ⟨_, _, okQ, _, fQ, _⟩ := thr_acc hQ
  by_cases h : t < P.length
  · rw [join_l h] at hx
    rw [opn_l P Q t (by omega)]
    exact okP t x h hx
  · obtain ⟨s, rfl⟩ : ∃ s, t = P.length + s := ⟨t - P.length, by omega⟩
    rw [join_len] at ht
    have hy : Q[s]? = some Q[s] := List.getElem?_eq_getElem (by omega)
    rw [join_r, hy] at hx
    obtain ⟨g1, g2⟩ := okQ s _ (by omega) hy
    simp only [Option.map_some, Option.some.injEq] at hx
    subst hx
    refine ⟨shx_ok g1 (by omega) (fun hj => ?_), ?_⟩
    · obtain ⟨q1, _⟩ := firstBad_neg _ _ Q 0 fQ s _ hy hj
      omega
    · rw [opn_r hP s (by omega), shx_k, show ((P.length + s : Nat) : Int) = (s : Int) + (P.length : Int) by omega, rstep_sh]
      exact g2
omit hp hq in
theorem opn_join : opn (join P Q) (join P Q).length = [] := by
  rw [join_len, opn_r hP _ (Nat.le_refl _), (thr_acc hQ).2.2.2.1]; rfl
theorem bad_join : (thrA (join P Q)).bad = -1 := by
  obtain ⟨p1, p5, okP, oP, fP, _⟩ := thr_acc hP
  obtain ⟨q1, q5, okQ, oQ, fQ, _⟩ := thr_acc hQ
  rw [bad_full (by rw [join_len]; omega) (by rw [join_len]; omega) (okj_join hP hQ hp hq) (opn_join hP hQ)]
  refine firstBad_all _ _ _ 0 (fun t x hx hj => ?_)
  rw [Nat.zero_add]
  by_cases h : t < P.length
  · rw [join_l h] at hx
    obtain ⟨g1, g2⟩ := firstBad_neg _ _ P 0 fP t x hx hj
    obtain ⟨tt, ht, _⟩ := tgt_in (okP t x h hx).1 hj
    rw [ht] at g1 g2 ⊢
    rw [Nat.zero_add, Int.toNat_natCast, tops_at P (by omega), tops_at P (by omega)] at g2
    refine ⟨by rw [join_len]; omega, ?_⟩
    rw [Int.toNat_natCast, tops_at _ (by rw [join_len]; omega), tops_at _ (by rw [join_len]; omega), opn_l P Q _ (by omega), opn_l P Q _ (by omega)]
    exact g2
  · obtain ⟨s, rfl⟩ : ∃ s, t = P.length + s := ⟨t - P.length, by omega⟩
    have hlt := (List.getElem?_eq_some_iff.1 hx).1
    rw [join_len] at hlt
    have hy : Q[s]? = some Q[s] := List.getElem?_eq_getElem (by omega)
    rw [join_r, hy] at hx
    simp only [Option.map_some, Option.some.injEq] at hx
    subst hx
    rw [shx_k] at hj
    obtain ⟨g1, g2⟩ := firstBad_neg _ _ Q 0 fQ s _ hy hj
    obtain ⟨tt, ht, _⟩ := tgt_in (okQ s _ (by omega) hy).1 hj
    have e : tgt (shx P.length Q[s]).k (shx P.length Q[s]).a (shx P.length Q[s]).b = ((P.length + tt : Nat) : Int) := by
      unfold shx; rw [aimx_tgt _ _ hj, ht]; omega
    rw [ht] at g1 g2
    rw [Nat.zero_add, Int.toNat_natCast, tops_at Q (by omega), tops_at Q (by omega)] at g2
    rw [e]
    refine ⟨by rw [join_len]; omega, ?_⟩
    rw [Int.toNat_natCast, tops_at _ (by rw [join_len]; omega), tops_at _ (by rw [join_len]; omega), opn_r hP _ (by omega), opn_r hP _ (by omega)]
    exact topP_shs (opn_nn Q _) (opn_nn Q _) g2
theorem chk_join : chkR (thrA (join P Q)) = 0 := (chk_zero _).2 (by rw [bad_join hP hQ hp hq]; decide)
omit hP hQ hp hq in
theorem mx_l : ∀ t, t ≤ P.length → mx (join P Q) t = mx P t := fun t => by
  induction t with
  | zero => exact fun _ => rfl
  | succ t ih => intro h; rw [mx, mx, ih (by omega), opn_l P Q _ h]
omit hQ hp hq in
theorem mx_r : ∀ t, t ≤ Q.length → mx (join P Q) (P.length + t) = max (mx P P.length) (mx Q t) := fun t => by
  induction t with
  | zero =>
    intro _
    have := (mx_bound P P.length).1
    rw [Nat.add_zero, mx_l _ (Nat.le_refl _)]
    show mx P P.length = max (mx P P.length) 0
    omega
  | succ t ih =>
    intro h
    rw [← Nat.add_assoc, mx, mx, ih (by omega), Nat.add_assoc, opn_r hP _ h, List.length_map]
    omega
theorem dep_join : depA (join P Q) = max (depA P) (depA Q) := by
  unfold depA
  rw [if_pos (chk_join hP hQ hp hq), if_pos ((chk_zero _).2 hP), if_pos ((chk_zero _).2 hQ), mx_end (okj_join hP hQ hp hq), mx_end (thr_acc hP).2.2.1, mx_end (thr_acc hQ).2.2.1, join_len, mx_r hP _ (Nat.le_refl _)]
omit hP hQ hp hq in
theorem blk_l : ∀ t, t ≤ P.length → blk (join P Q) t = blk P t := fun t => by
  induction t with
  | zero => exact fun _ => rfl
  | succ t ih => intro h; rw [blk, blk, ih (by omega), opn_l P Q _ (by omega), kd_l (by omega)]
omit hQ hp hq in
theorem blk_r : ∀ t, t ≤ Q.length → (blk (join P Q) (P.length + t)).length = (blk P P.length).length + (blk Q t).length := fun t => by
  induction t with
  | zero => intro _; rw [Nat.add_zero, blk_l _ (Nat.le_refl _)]; rfl
  | succ t ih =>
    intro h
    rw [← Nat.add_assoc, blk, blk, kd_r, opn_r hP _ (by omega)]
    by_cases hc : kd Q t = 15 ∧ opn Q t = []
    · rw [if_pos hc, if_pos ⟨hc.1, by rw [hc.2]; rfl⟩, List.length_append, List.length_append, ih (by omega)]; rfl
    · rw [if_neg hc, if_neg (by rintro ⟨h1, h2⟩; exact hc ⟨h1, by simpa using h2⟩), ih (by omega)]
theorem blk_join : (blkA (join P Q)).length = (blkA P).length + (blkA Q).length := by
  unfold blkA
  rw [if_pos (chk_join hP hQ hp hq), if_pos ((chk_zero _).2 hP), if_pos ((chk_zero _).2 hQ), join_len, blk_r hP _ (Nat.le_refl _)]
end
end Go.Proofs.Ytfobfcnbbafplaa
