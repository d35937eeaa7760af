/- The walk through a program: its rows turned. -/
import Derived.Test.YtfobfcnbbafplaaF
namespace Go.Proofs.Ytfobfcnbbafplaa
open Go.RowKit
set_option linter.unusedVariables false
set_option linter.unusedSimpArgs false

/-- a cell of a row of one's own is turned -/
theorem own_turn {w : World} {base : Nat} {T : TypeId} {size n : Nat} {v : Value} {xs : List Value} {g : Nat} (h : w.ownsRow base T size v n xs) (hg : v.ownBlock = some g) (j : Nat) (y : Value) :
    (w.setCell ⟨g, j, none⟩ y).ownsRow base T size v n (xs.set j y) ∧ w.frozen? ⟨g, j, none⟩ = false := by
  rcases h.2 with ⟨rfl, hn⟩ | ⟨g', cap, cur, rfl, hb, hh, h1, h2, h3, h4⟩
  · cases hg
  · cases hg
    have hB : Blk w g' cur T := hh
    refine ⟨⟨by simpa using h.1, .inr ⟨g', cap, _, rfl, hb, hB.set j y, h1, h2, by simpa using h3, ?_⟩⟩, hB.free j⟩
    rw [Array.toList_setIfInBounds, List.take_set, h4]
/-- the cell of a row of one's own -/
theorem own_at {w : World} {base : Nat} {T : TypeId} {size n : Nat} {v : Value} {xs : List Value} (hs : 0 < size) (h : w.ownsRow base T size v n xs) {j : Nat} {u : Value} (hu : xs[j]? = some u) :
    ∃ g c, v = .slice (some ⟨g, 0, none⟩) n c ∧ v.ownBlock = some g ∧ w.cell? ⟨g, j, none⟩ = some u := by
  have hcs := fun g hg => h.cells (g := g) hg
  have hl := h.1
  rcases h.2 with ⟨rfl, rfl⟩ | ⟨g, cap, cur, rfl, hb, hh, h1, h2, h3, h4⟩
  · have := (List.getElem?_eq_some_iff.1 hu).1
    omega
  · exact ⟨g, cap, rfl, rfl, by have := hcs g rfl j u hu; rwa [Addr.add_lit, Nat.zero_add] at this⟩
theorem icl_len (M : List Int) : (icl M).length = M.length := by simp [icl]
theorem icl_set (M : List Int) (j : Nat) (y : Int) : (icl M).set j (.int .i64 y) = icl (M.set j y) := by simp [icl, List.map_set]
theorem own_set_eq {ao : Option Addr} {n m c : Nat} : (Value.slice ao n c).ownBlock = (Value.slice ao m c).ownBlock := by cases ao <;> rfl
theorem scl_last (L : List (Int × Int)) (p : Int × Int) (y : Int) : (scl (L ++ [p])).set (L.length * 2 + 1) (.int .i64 y) = scl (L ++ [(p.1, y)]) := by
  rw [scl_append, scl_append, List.set_append_right _ _ (by rw [scl_length]; omega), scl_length, show L.length * 2 + 1 - L.length * 2 = 1 by omega]; rfl

section
variable {w w' : World} {B b : Nat} {L T : List (Int × Int)} {M : List Int} {bad : Int} {deep : Bool}
/-- the mates, as a slice; a mate turned -/
theorem Wk.mates (h : Wk w B b L T M bad deep) : ∃ ao c, w.cell? ⟨b, 2, none⟩ = some (.slice ao M.length c) ∧ M.length ≤ c ∧ c ≤ 9223372036854775807 ∧ ∀ j x, M[j]? = some x → ∃ g, ao = some ⟨g, 0, none⟩ ∧ g ≠ b ∧ B ≤ g ∧ w.cell? ⟨g, j, none⟩ = some (.int .i64 x) ∧ w.frozen? ⟨g, j, none⟩ = false := by
  obtain ⟨h0, lv, av, mv, h1, h2, h3, h4, h5⟩ := h
  have h4' := h4
  rcases h4.2 with ⟨rfl, hn⟩ | ⟨g', cap, cur, rfl, hb, hh, q1, q2, q3, q4⟩
  · refine ⟨none, 0, by rw [hn]; exact h1.cell 2 _ rfl, by omega, by omega, fun j x hx => ?_⟩
    have := (List.getElem?_eq_some_iff.1 hx).1
    omega
  · refine ⟨_, cap, h1.cell 2 _ rfl, q1, by unfold maxLen at q2; omega, fun j x hx => ?_⟩
    obtain ⟨g, c, e, hg, hc⟩ := own_at (by omega) h4 (u := .int .i64 x) (j := j) (by simp [icl, hx])
    cases e
    exact ⟨_, rfl, fun q => h5.2.2.1 (by rw [hg, q]), hb, hc, (own_turn h4 hg j (.int .i64 0)).2⟩
theorem Wk.mset (h : Wk w B b L T M bad deep) {g n c : Nat} (hc : w.cell? ⟨b, 2, none⟩ = some (.slice (some ⟨g, 0, none⟩) n c)) (j : Nat) (y : Int) :
    Wk (w.setCell ⟨g, j, none⟩ (.int .i64 y)) B b L T (M.set j y) bad deep ∧ Tr (fun i => B ≤ i) w (w.setCell ⟨g, j, none⟩ (.int .i64 y)) := by
  obtain ⟨h0, lv, av, mv, h1, h2, h3, h4, h5⟩ := h
  have hm := h1.cell 2 mv rfl
  rw [hc] at hm
  cases hm
  have hgm : (Value.slice (some ⟨g, 0, none⟩) n c).ownBlock = some g := rfl
  have s1 := g_set (g_refl w (some g)) (p := ⟨g, j, none⟩) (.inl rfl) (.int .i64 y)
  have ht := (own_turn h4 hgm j (.int .i64 y)).1
  rw [icl_set] at ht
  have hne : ∀ v : Value, (∀ g', v.ownBlock = some g' → (Value.slice (some ⟨g, 0, none⟩) n c).ownBlock ≠ some g') → v.ownBlock = none ∨ v.ownBlock ≠ some g := fun v hv => by
    cases hq : v.ownBlock with
    | none => exact .inl rfl
    | some g' => exact .inr (fun e => hv g' hq (by rw [hgm]; exact e.symm))
  refine ⟨⟨h0, lv, av, _, h1.keeps s1 (fun e => h5.2.2.1 (by rw [hgm, e])), h2.kept s1 (hne lv (fun g' e => (h5.2.2.2.1 g' e).2)), h3.kept s1 (hne av (fun g' e => h5.2.2.2.2 g' e)), by simpa using ht, h5⟩, tr_B s1 (fun g' e => by cases e; exact (own_lt h4 hgm).1)⟩
/-- the last way turned -/
theorem Wk.lset {R : List (Int × Int)} {p : Int × Int} (h : Wk w B b (R ++ [p]) T M bad deep) : ∃ g c, w.cell? ⟨b, 0, none⟩ = some (.slice (some ⟨g, 0, none⟩) (R.length + 1) c) ∧ R.length + 1 ≤ c ∧ c ≤ 9223372036854775807 ∧ g ≠ b ∧ B ≤ g ∧ w.cell? ⟨g, R.length * 2 + 1, none⟩ = some (.int .i64 p.2) ∧ w.frozen? ⟨g, R.length * 2 + 1, none⟩ = false
    ∧ (∀ gm n c, w.cell? ⟨b, 2, none⟩ = some (.slice (some ⟨gm, 0, none⟩) n c) → g ≠ gm)
    ∧ ∀ y, Wk (w.setCell ⟨g, R.length * 2 + 1, none⟩ (.int .i64 y)) B b (R ++ [(p.1, y)]) T M bad deep ∧ Tr (fun i => B ≤ i) w (w.setCell ⟨g, R.length * 2 + 1, none⟩ (.int .i64 y)) := by
  obtain ⟨h0, lv, av, mv, h1, h2, h3, h4, h5⟩ := h
  have hat := (scl_at (R ++ [p]) R.length p (by simp)).2
  obtain ⟨g, c, rfl, hg, hc⟩ := own_at (by omega) h2 hat
  have hl := len_own h2
  simp only [List.length_append, List.length_cons, List.length_nil, Nat.zero_add] at h1 h2 h5 hl
  refine ⟨g, c, h1.cell 0 _ rfl, hl.1, hl.2, fun e => h5.1 (by rw [← e]; rfl), (own_lt h2 rfl).1, hc, (own_turn h2 rfl _ (.int .i64 0)).2, fun gm n c' hm e => ?_, fun y => ?_⟩
  · have := h1.cell 2 mv rfl
    rw [hm] at this
    cases this
    exact (h5.2.2.2.1 g rfl).2 (by rw [e]; rfl)
  · have s1 := g_set (g_refl w (some g)) (p := ⟨g, R.length * 2 + 1, none⟩) (.inl rfl) (.int .i64 y)
    have ht := (own_turn h2 rfl (R.length * 2 + 1) (.int .i64 y)).1
    rw [scl_last] at ht
    have hne : ∀ v : Value, v.ownBlock ≠ some g → v.ownBlock = none ∨ v.ownBlock ≠ some g := fun v hv => .inr hv
    exact ⟨⟨h0, _, av, mv, h1.keeps s1 (fun e => h5.1 (by rw [e]; rfl)), by simpa using ht, h3.kept s1 (hne av (h5.2.2.2.1 g rfl).1), h4.kept s1 (hne mv (h5.2.2.2.1 g rfl).2), by simpa using h5⟩, tr_B s1 (fun g' e => by cases e; exact (own_lt h2 rfl).1)⟩
/-- what is wrong, and whether it is too deep, turned -/
theorem Wk.bset (h : Wk w B b L T M bad deep) (y : Int) : w.cell? ⟨b, 3, none⟩ = some (.int .i64 bad) ∧ w.frozen? ⟨b, 3, none⟩ = false ∧ Wk (w.setCell ⟨b, 3, none⟩ (.int .i64 y)) B b L T M y deep ∧ Tr (fun i => B ≤ i) w (w.setCell ⟨b, 3, none⟩ (.int .i64 y)) := by
  obtain ⟨h0, lv, av, mv, h1, h2, h3, h4, h5⟩ := h
  have s1 := g_set (g_refl w (some b)) (p := ⟨b, 3, none⟩) (.inl rfl) (.int .i64 y)
  exact ⟨h1.cell 3 _ rfl, h1.free 3, ⟨h0, lv, av, mv, by simpa using h1.set 3 (.int .i64 y), h2.kept s1 (.inr h5.1), h3.kept s1 (.inr h5.2.1), h4.kept s1 (.inr h5.2.2.1), h5⟩, tr_B s1 (fun g e => by cases e; exact h0)⟩
theorem Wk.dset (h : Wk w B b L T M bad deep) (y : Bool) : w.cell? ⟨b, 4, none⟩ = some (.bool deep) ∧ w.frozen? ⟨b, 4, none⟩ = false ∧ Wk (w.setCell ⟨b, 4, none⟩ (.bool y)) B b L T M bad y ∧ Tr (fun i => B ≤ i) w (w.setCell ⟨b, 4, none⟩ (.bool y)) := by
  obtain ⟨h0, lv, av, mv, h1, h2, h3, h4, h5⟩ := h
  have s1 := g_set (g_refl w (some b)) (p := ⟨b, 4, none⟩) (.inl rfl) (.bool y)
  exact ⟨h1.cell 4 _ rfl, h1.free 4, ⟨h0, lv, av, mv, by simpa using h1.set 4 (.bool y), h2.kept s1 (.inr h5.1), h3.kept s1 (.inr h5.2.1), h4.kept s1 (.inr h5.2.2.1), h5⟩, tr_B s1 (fun g e => by cases e; exact h0)⟩
end
end Go.Proofs.Ytfobfcnbbafplaa
