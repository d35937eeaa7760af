/- Programs as bytes: the plain laws. -/
import Derived.Test.YtmckaimgeflncaaPB
namespace Go.Proofs.Ytmckaimgeflncaa
open Go.RowKit
set_option linter.unusedVariables false
set_option linter.unusedSimpArgs false

theorem encx_head {x : I4} : (encx x)[0]? = some x.k := by rfl
theorem encx_cancel {x y : I4} {R S : List Int} (hx : okx x = true) (hy : okx y = true) (h : encx x ++ R = encx y ++ S) : x = y ∧ R = S := by
  obtain ⟨n, hn, n1, n2, on⟩ := okx_in hx
  obtain ⟨m, hm, m1, m2, om⟩ := okx_in hy
  have h0 : (encx x ++ R)[0]? = some x.k := by rw [List.getElem?_append_left (List.getElem?_eq_some_iff.1 encx_head).1]; exact encx_head
  have h1 : (encx y ++ S)[0]? = some y.k := by rw [List.getElem?_append_left (List.getElem?_eq_some_iff.1 encx_head).1]; exact encx_head
  rw [h, h1] at h0
  have hk : y.k = x.k := by injection h0
  obtain rfl : n = m := by omega
  have a := hv_enc on R
  have b := hv_enc om S
  rw [← encx_eq hn] at a
  rw [← encx_eq hm] at b
  rw [h] at a
  have e1 : x = y := by
    obtain ⟨xk, xa, xb, xc⟩ := x
    obtain ⟨yk, ya, yb, yc⟩ := y
    obtain ⟨a1, a2, a3⟩ := a
    obtain ⟨b1, b2, b3⟩ := b
    simp only at *
    subst hk
    rw [← a1, ← a2, ← a3, b1, b2, b3]
  subst e1
  exact ⟨rfl, List.append_cancel_left h⟩
theorem flat_cancel : ∀ {p q : List I4} {R S : List Int}, okL p = true → okL q = true → p.length ≤ q.length → flatB p ++ R = flatB q ++ S → ∃ r, q = p ++ r ∧ R = flatB r ++ S := by
  intro p
  induction p with
  | nil => intro q R S _ _ _ h; exact ⟨q, rfl, by simpa [flatB] using h⟩
  | cons x t ih =>
    intro q R S hp hq hl h
    cases q with
    | nil => simp at hl
    | cons y u =>
      have e1 : flatB (x :: t) = encx x ++ flatB t := by simp [flatB]
      have e2 : flatB (y :: u) = encx y ++ flatB u := by simp [flatB]
      rw [e1, e2, List.append_assoc, List.append_assoc] at h
      simp only [okL, List.all_cons, Bool.and_eq_true] at hp hq
      obtain ⟨rfl, h2⟩ := encx_cancel hp.1 hq.1 h
      obtain ⟨r, h3, h4⟩ := ih (q := u) hp.2 hq.2 (by simpa using hl) h2
      exact ⟨r, by rw [h3]; rfl, h4⟩

/-- the bytes are those of a program -/
def IsB (B : List Int) (p : List I4) : Prop := p.length ≤ 512 ∧ okL p = true ∧ B = full p
theorem full_len (p : List I4) : (full p).length = 7 + (flatB p).length := by simp [full, bodyB, hdB]; omega
theorem isB_len {B : List Int} {p : List I4} (h : IsB B p) : 7 ≤ B.length := by rw [h.2.2, full_len]; omega

/-- the parts of at least seven bytes -/
theorem parts {B : List Int} (h : 7 ≤ B.length) : ∃ H x4 x5 M z, B = H ++ [x4, x5] ++ M ++ [z] ∧ H.length = 4 ∧ B.take 4 = H ∧ B[4]? = some x4 ∧ B[5]? = some x5 ∧ (B.drop 6).take (B.length - 7) = M ∧ B[B.length - 1]? = some z ∧ B.take (B.length - 1) = H ++ [x4, x5] ++ M ∧ B.drop 6 = M ++ [z] ∧ M.length + 7 = B.length := by
  obtain ⟨x4, h4⟩ : ∃ x, B[4]? = some x := ⟨_, List.getElem?_eq_getElem (by omega)⟩
  obtain ⟨x5, h5⟩ : ∃ x, B[5]? = some x := ⟨_, List.getElem?_eq_getElem (by omega)⟩
  obtain ⟨z, hz⟩ : ∃ x, B[B.length - 1]? = some x := ⟨_, List.getElem?_eq_getElem (by omega)⟩
  have e5 : B.take 6 = B.take 4 ++ [x4, x5] := by
    rw [List.take_add_one (i := 5), List.take_add_one (i := 4), h4, h5]; simp
  have eZ : B.drop (B.length - 1) = [z] := by
    have h2 := List.drop_eq_getElem_cons (l := B) (i := B.length - 1) (by omega)
    rw [show B.length - 1 + 1 = B.length by omega, List.drop_length] at h2
    rw [List.getElem?_eq_getElem (by omega)] at hz
    injection hz with hz
    rw [h2, hz]
  have eM : B.drop 6 = (B.drop 6).take (B.length - 7) ++ [z] := by
    have h2 := (List.take_append_drop (B.length - 7) (B.drop 6)).symm
    rw [List.drop_drop, show 6 + (B.length - 7) = B.length - 1 by omega, eZ] at h2
    exact h2
  have eB : B = B.take 4 ++ [x4, x5] ++ (B.drop 6).take (B.length - 7) ++ [z] := by
    have := (List.take_append_drop 6 B).symm
    rw [e5, eM] at this
    rw [List.append_assoc (B.take 4 ++ [x4, x5])]; exact this
  refine ⟨B.take 4, x4, x5, (B.drop 6).take (B.length - 7), z, eB, by rw [List.length_take]; omega, rfl, h4, h5, rfl, hz, ?_, eM, by rw [List.length_take, List.length_drop]; omega⟩
  have hl : (B.take 4 ++ [x4, x5] ++ (B.drop 6).take (B.length - 7)).length = B.length - 1 := by simp; omega
  have := congrArg (List.take (B.length - 1)) eB
  rw [List.take_left' hl] at this; exact this

theorem isB_iff {H M : List Int} {x4 x5 z : Int} {p : List I4} (hH : H.length = 4) (h40 : 0 ≤ x4) (h50 : 0 ≤ x5) (h5 : x5 ≤ 255) :
    IsB (H ++ [x4, x5] ++ M ++ [z]) p ↔ H = [71, 78, 84, 1] ∧ x4 * 256 + x5 = p.length ∧ p.length ≤ 512 ∧ okL p = true ∧ M = flatB p ∧ z = sumB (H ++ [x4, x5] ++ M) := by
  constructor
  · rintro ⟨h1, h2, h3⟩
    unfold full at h3
    have hlen := congrArg List.length h3
    obtain ⟨h4, h5'⟩ := List.append_inj' h3 rfl
    unfold bodyB hdB at h4
    have e : ([71, 78, 84, 1, (p.length : Int) / 256, (p.length : Int) % 256] : List Int) = [71, 78, 84, 1] ++ [(p.length : Int) / 256, (p.length : Int) % 256] := rfl
    rw [e] at h4
    obtain ⟨h6, h7⟩ := List.append_inj h4 (by simp [hH])
    obtain ⟨h8, h9⟩ := List.append_inj h6 (by simp [hH])
    simp only [List.cons.injEq, and_true] at h9 h5'
    refine ⟨h8, by omega, h1, h2, h7, ?_⟩
    rw [h5', h4]; rfl
  · rintro ⟨rfl, h2, h3, h4, rfl, h6⟩
    refine ⟨h3, h4, ?_⟩
    have e4 : x4 = (p.length : Int) / 256 := by omega
    have e5 : x5 = (p.length : Int) % 256 := by omega
    have eb : ([71, 78, 84, 1] : List Int) ++ [x4, x5] ++ flatB p = bodyB p := by
      unfold bodyB hdB; rw [← e4, ← e5]; rfl
    rw [h6, eb]; rfl
theorem isB_uniq {B : List Int} {p q : List I4} (h : IsB B p) (k : IsB B q) : p = q := by
  obtain ⟨h1, h2, rfl⟩ := h
  obtain ⟨k1, k2, k3⟩ := k
  unfold full at k3
  obtain ⟨k4, -⟩ := List.append_inj' k3 rfl
  unfold bodyB at k4
  obtain ⟨k5, k6⟩ := List.append_inj k4 (by simp [hdB])
  have hl : p.length = q.length := by
    simp only [hdB, List.cons.injEq, and_true, true_and] at k5; omega
  obtain ⟨r, e1, e2⟩ := flat_cancel (R := []) (S := []) h2 k2 (by omega) (by rw [k6])
  have : r = [] := by
    have := congrArg List.length e1
    simp at this
    exact List.eq_nil_of_length_eq_zero (by omega)
  rw [e1, this]; simp

/-- what stands first where an instruction stands -/
theorem enc_facts {R S : List Int} {x : I4} (hx : okx x = true) (h : R = encx x ++ S) :
    ∃ k : Nat, x.k = k ∧ 1 ≤ k ∧ k ≤ 20 ∧ R[0]? = some (k : Int) ∧ alN (sA k) (sB k) (sC k) 3 ≤ R.length ∧ okI k (hv (sA k) (sB k) (sC k) R 0) (hv (sA k) (sB k) (sC k) R 1) (hv (sA k) (sB k) (sC k) R 2) = true := by
  obtain ⟨n, hn, n1, n2, on⟩ := okx_in hx
  have a := hv_enc on S
  rw [← encx_eq hn] at a
  rw [← h] at a
  refine ⟨n, hn, n1, n2, ?_, ?_, ?_⟩
  · rw [h, List.getElem?_append_left (List.getElem?_eq_some_iff.1 encx_head).1, encx_head, hn]
  · rw [h, List.length_append, encx_eq hn, enc_len]; omega
  · rw [a.1, a.2.1, a.2.2]; exact on

/-- what a decoding of one instruction answers -/
def DecX (R : List Int) (w w' : World) (e : Ending) : Prop :=
  w.grownBy w' none ∧ (((¬ ∃ x S, okx x = true ∧ R = encx x ++ S) ∧ ∃ r : Int, r ≠ 0 ∧ e = .returned (.tuple #[.agg #[.int .i64 0, .int .i64 0, .int .i64 0, .int .i64 0], .slice none 0 0, .int .i64 r]))
    ∨ (∃ x S, okx x = true ∧ R = encx x ++ S ∧ ∃ a m cc, e = .returned (.tuple #[.agg #[.int .i64 x.k, .int .i64 x.a, .int .i64 x.b, .int .i64 x.c], .slice a m cc, .int .i64 0]) ∧ BRow w' a S ∧ S.length = m ∧ m ≤ cc ∧ cc ≤ 9223372036854775807 ∧ (0 < m → ∃ g, a = some ⟨g, 0, none⟩ ∧ w.heap.size ≤ g)))

theorem decx_any (ao : Option Addr) (n c : Nat) (R : List Int) (w : World) (hR : BRow w ao R) (hn : R.length = n) (hn4 : n < 100000) (hnc : n ≤ c) (hcm : c ≤ 9223372036854775807) :
    Calls Try.prog 23 #[.slice ao n c] w fun e w' => DecX R w w' e := by
  have hbb : ∀ y ∈ R, 0 ≤ y ∧ y ≤ 255 := fun y hy => by
    obtain ⟨i, hi⟩ := List.mem_iff_getElem?.1 hy
    exact (hR i y hi).1
  cases hL0 : R[0]? with
  | none =>
    have : R = [] := by
      cases R with
      | nil => rfl
      | cons x t => simp at hL0
    subst this
    obtain rfl : n = 0 := by simpa using hn.symm
    refine (decode_none ao c w).mono fun e w' ⟨h1, h2⟩ => ⟨h2, .inl ⟨?_, 6, by decide, h1⟩⟩
    rintro ⟨x, S, hx, hS⟩
    obtain ⟨k, _, _, _, h0, _⟩ := enc_facts hx hS
    simp at h0
  | some z =>
    obtain ⟨⟨hx0, hx1⟩, b, off, rfl, hc⟩ := hR 0 z hL0
    have hn0 : 0 < n := by rw [← hn]; exact (List.getElem?_eq_some_iff.1 hL0).1
    rcases kind_cases z with ⟨k, rfl, h1, h2⟩ | hbad
    · refine (decode_k _ n c R w hR hn k h1 h2 hL0 hn4 hnc hcm).mono ?_
      rintro e w' ⟨hg, ⟨hs, he⟩ | ⟨_, hok, he⟩ | ⟨hle, hok, v, he, how⟩⟩
      · refine ⟨hg, .inl ⟨?_, 6, by decide, he⟩⟩
        rintro ⟨x, S, hx, hS⟩
        obtain ⟨k', _, _, _, h0, hl, ho⟩ := enc_facts hx hS
        rw [hL0] at h0
        obtain rfl : k = k' := by injection h0 with h0; omega
        omega
      · refine ⟨hg, .inl ⟨?_, 100, by decide, he⟩⟩
        rintro ⟨x, S, hx, hS⟩
        obtain ⟨k', _, _, _, h0, hl, ho⟩ := enc_facts hx hS
        rw [hL0] at h0
        obtain rfl : k = k' := by injection h0 with h0; omega
        rw [hok] at ho; cases ho
      · obtain ⟨a, cc, rfl, hb, hl, hcc1, hcc2, hpos⟩ := brow_own how (fun y hy => hbb y (List.mem_of_mem_drop hy))
        have hk : okx (⟨(k : Int), hv (sA k) (sB k) (sC k) R 0, hv (sA k) (sB k) (sC k) R 1, hv (sA k) (sB k) (sC k) R 2⟩ : I4) = true := by
          unfold okx; rw [okZ_in rfl h1 h2]; exact hok
        refine ⟨hg, .inr ⟨⟨(k : Int), hv (sA k) (sB k) (sC k) R 0, hv (sA k) (sB k) (sC k) R 1, hv (sA k) (sB k) (sC k) R 2⟩, R.drop (alN (sA k) (sB k) (sC k) 3), hk, ?_, a, _, cc, he, hb, hl, hcc1, hcc2, fun h => by obtain ⟨g, e1, e2, _⟩ := hpos h; exact ⟨g, e1, e2⟩⟩⟩
        rw [encx_eq rfl]
        simp only
        rw [enc_hv hL0 hbb (by rw [hn]; exact hle)]
        exact (List.take_append_drop _ _).symm
    · refine (decode_badk b off n c z w hn0 hn4 (by simpa using hc) hbad hx0 hx1).mono fun e w' ⟨h1, h2⟩ => ⟨h2, .inl ⟨?_, 100, by decide, h1⟩⟩
      rintro ⟨x, S, hx, hS⟩
      obtain ⟨k', _, _, _, h0, hl, ho⟩ := enc_facts hx hS
      rw [hL0] at h0
      injection h0 with h0
      omega
end Go.Proofs.Ytmckaimgeflncaa
