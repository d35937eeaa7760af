/- Rows that came in; rows of one's own; few. -/
import Derived.Test.YtkkcfielmpjgeaaF
import Derived.Test.YtkkcfielmpjgeaaShapes
namespace Go.Proofs.Ytkkcfielmpjgeaa
open Go.RowKit
set_option linter.unusedVariables false
set_option linter.unusedSimpArgs false

theorem list_of {α : Type} {n : Nat} {p : Nat → α → Prop} (h : ∀ i, i < n → ∃ x, p i x) : ∃ L : List α, L.length = n ∧ ∀ i x, L[i]? = some x → p i x := by
  induction n with
  | zero => exact ⟨[], rfl, fun i x h => by simp at h⟩
  | succ n ih =>
    obtain ⟨L, h1, h2⟩ := ih (fun i hi => h i (by omega))
    obtain ⟨x, hx⟩ := h n (by omega)
    refine ⟨L ++ [x], by simp [h1], fun i y hy => ?_⟩
    rw [List.getElem?_append] at hy
    split at hy
    · exact h2 i y hy
    · have e : i - L.length = 0 := by
        rcases Nat.eq_zero_or_pos (i - L.length) with e | e
        · exact e
        · rw [List.getElem?_eq_none (by simp; omega)] at hy; cases hy
      rw [e] at hy; simp at hy; subst hy
      have : i = n := by omega
      rw [this]; exact hx
theorem vec_vals {w : World} {ao : Option Addr} {n c : Nat} (h : Vec w ao n c 2 Q24) : ∃ F : List VV, F.length = n ∧ SRow w ao F ∧ (∀ f ∈ F, WV f) ∧ (∀ a, ao = some a → F ≠ [] → a.block < w.heap.size) ∧ (ao = none → F = []) := by
  have h1 : ∀ i, i < n → ∃ f : VV, WV f ∧ ∃ b off, ao = some ⟨b, off, none⟩ ∧ w.cell? ⟨b, off + i * 2, none⟩ = some (.int .i64 f.1) ∧ w.cell? ⟨b, off + i * 2 + 1, none⟩ = some (.int .i64 f.2) := fun i hi => by
    obtain ⟨b, off, cs, e1, e2, ⟨n0, n1, rfl, q0, q1⟩, e4⟩ := h.2.2 i hi
    exact ⟨(n0, n1), ⟨q0, q1⟩, b, off, e1, e4 0 _ rfl, e4 1 _ rfl⟩
  obtain ⟨F, hl, hF⟩ := list_of h1
  refine ⟨F, hl, fun i p hp => ?_, fun f hf => ?_, fun a ha hne => ?_, fun ha => ?_⟩
  · obtain ⟨_, b, off, e1, e2, e3⟩ := hF i p hp
    exact ⟨b, off, e1, e2, e3⟩
  · obtain ⟨i, hi⟩ := List.mem_iff_getElem?.1 hf
    exact (hF i f hi).1
  · cases F with
    | nil => exact absurd rfl hne
    | cons f F =>
      obtain ⟨_, b, off, e1, e2, e3⟩ := hF 0 f rfl
      rw [ha] at e1; cases e1
      exact World.block_lt_of_cell? _ _ e2
  · cases F with
    | nil => rfl
    | cons f F =>
      obtain ⟨_, b, off, e1, e2, e3⟩ := hF 0 f rfl
      rw [ha] at e1; cases e1
theorem vec_objs {w : World} {ao : Option Addr} {n c : Nat} (h : Vec w ao n c 8 (Q33 w)) : ∃ Ls : List OB, Ls.length = n ∧ ORow w w.heap.size ao Ls ∧ ∀ o ∈ Ls, WO o := by
  have h1 : ∀ i, i < n → ∃ o : OB, WO o ∧ ∃ b off fa fc, ao = some ⟨b, off, none⟩ ∧ b < w.heap.size ∧ w.cell? ⟨b, off + i * 8, none⟩ = some (.int .i64 o.ref.1) ∧ w.cell? ⟨b, off + i * 8 + 1, none⟩ = some (.int .i64 o.ref.2) ∧
    w.cell? ⟨b, off + i * 8 + 2, none⟩ = some (.int .i64 o.gen) ∧ w.cell? ⟨b, off + i * 8 + 3, none⟩ = some (.int .i64 o.fields) ∧ w.cell? ⟨b, off + i * 8 + 4, none⟩ = some (.int .i64 o.mask) ∧ w.cell? ⟨b, off + i * 8 + 5, none⟩ = some (.int .i64 o.state) ∧
    w.cell? ⟨b, off + i * 8 + 6, none⟩ = some (.int .i64 o.owner) ∧ w.cell? ⟨b, off + i * 8 + 7, none⟩ = some (.slice fa o.F.length fc) ∧ SRow w fa o.F ∧ (∀ a, fa = some a → o.F ≠ [] → a.block < w.heap.size) ∧ o.F.length ≤ fc ∧ fc ≤ 9223372036854775807 ∧ (fa = none → o.F = []) := fun i hi => by
    obtain ⟨b, off, cs, e1, e2, ⟨n0, n1, n2, n3, n4, n5, n6, fa, fn, fc, rfl, q0, q1, _, _, _, _, _, hv⟩, e4⟩ := h.2.2 i hi
    obtain ⟨F, hl, hs, hw, hb, hn⟩ := vec_vals hv
    subst hl
    exact ⟨⟨(n0, n1), n2, n3, n4, n5, n6, F⟩, ⟨⟨q0, q1⟩, hw⟩, b, off, fa, fc, e1, World.block_lt_of_cell? _ _ (e4 0 _ rfl), e4 0 _ rfl, e4 1 _ rfl, e4 2 _ rfl, e4 3 _ rfl, e4 4 _ rfl, e4 5 _ rfl, e4 6 _ rfl, e4 7 _ rfl, hs, hb, hv.1, by have := hv.2.1; unfold maxLen at this; omega, hn⟩
  obtain ⟨Ls, hl, hL⟩ := list_of h1
  refine ⟨Ls, hl, fun i o hi => (hL i o hi).2, fun o ho => ?_⟩
  obtain ⟨i, hi⟩ := List.mem_iff_getElem?.1 ho
  exact (hL i o hi).1

/-- an object with the slice of its fields -/
abbrev OX := OB × Option Addr × Nat
def oc (x : OX) : List Value := [.int .i64 x.1.ref.1, .int .i64 x.1.ref.2, .int .i64 x.1.gen, .int .i64 x.1.fields, .int .i64 x.1.mask, .int .i64 x.1.state, .int .i64 x.1.owner, .slice x.2.1 x.1.F.length x.2.2]
def ocl : List OX → List Value
  | [] => []
  | x :: xs => oc x ++ ocl xs
theorem ocl_append (xs ys : List OX) : ocl (xs ++ ys) = ocl xs ++ ocl ys := by
  induction xs with
  | nil => rfl
  | cons x xs ih => simp [ocl, ih]
theorem ocl_length (xs : List OX) : (ocl xs).length = xs.length * 8 := by
  induction xs with
  | nil => rfl
  | cons x xs ih => simp [ocl, oc, ih]; omega
theorem ocl_get {xs : List OX} {i : Nat} {x : OX} (h : xs[i]? = some x) {j : Nat} (hj : j < 8) : (ocl xs)[i * 8 + j]? = (oc x)[j]? := by
  induction xs generalizing i with
  | nil => simp at h
  | cons y ys ih =>
    cases i with
    | zero =>
      simp at h; subst h
      simp only [ocl, Nat.zero_mul, Nat.zero_add]
      rw [List.getElem?_append_left (by simp [oc]; omega)]
    | succ i =>
      simp at h
      have e : (i + 1) * 8 + j = (oc y).length + (i * 8 + j) := by simp [oc]; omega
      simp only [ocl]
      rw [e, List.getElem?_append_right (by omega), Nat.add_sub_cancel_left]
      exact ih h
/-- an object's fields stand below B -/
def OK (w : World) (B : Nat) (x : OX) : Prop := SRow w x.2.1 x.1.F ∧ (∀ a, x.2.1 = some a → x.1.F ≠ [] → a.block < B) ∧ x.1.F.length ≤ x.2.2 ∧ x.2.2 ≤ 9223372036854775807 ∧ (x.2.1 = none → x.1.F = [])
theorem OK.keepn {w w' : World} {B : Nat} {x : OX} (h : OK w B x) (g : w.grownBy w' none) : OK w' B x := ⟨h.1.keep g, h.2⟩
theorem OK.mono {w : World} {B B' : Nat} {x : OX} (h : OK w B x) (hB : B ≤ B') : OK w B' x := ⟨h.1, fun a e hn => Nat.lt_of_lt_of_le (h.2.1 a e hn) hB, h.2.2⟩
theorem orow_of_own {w : World} {base : Nat} {v : Value} {n : Nat} {xs : List OX} (h : w.ownsRow base 34 8 v n (ocl xs)) (hx : ∀ x ∈ xs, OK w w.heap.size x) :
    ∃ ao c, v = .slice ao n c ∧ ORow w w.heap.size ao (xs.map (·.1)) ∧ xs.length = n := by
  have hc := fun g hg => h.cells (g := g) hg
  have hl := h.1
  rw [ocl_length] at hl
  rcases h.2 with ⟨rfl, rfl⟩ | ⟨g, cap, cur, rfl, hb, hh, _⟩
  · have e : xs = [] := by
      cases xs with
      | nil => rfl
      | cons x xs => simp at hl
    subst e
    exact ⟨none, 0, rfl, fun i o hi => by simp at hi, rfl⟩
  · have hlen : xs.length = n := by omega
    refine ⟨some ⟨g, 0, none⟩, cap, rfl, fun i o hi => ?_, hlen⟩
    rw [List.getElem?_map] at hi
    cases hxi : xs[i]? with
    | none => rw [hxi] at hi; simp at hi
    | some x =>
      rw [hxi] at hi; simp at hi; subst hi
      have hg : g < w.heap.size := (World.ownsRow.lt h g rfl).2
      obtain ⟨k1, k2, k3, k4, k5⟩ := hx x (List.mem_of_getElem? hxi)
      have hcell : ∀ j u, j < 8 → (oc x)[j]? = some u → w.cell? ⟨g, 0 + i * 8 + j, none⟩ = some u := fun j u hj hu => by
        have e : 0 + i * 8 + j = i * 8 + j := by omega
        rw [e]
        have q := hc g rfl (i * 8 + j) u (by rw [ocl_get hxi hj]; exact hu)
        have e2 : ((⟨g, 0, none⟩ : Addr).add (i * 8 + j)) = ⟨g, i * 8 + j, none⟩ := by
          unfold Addr.add
          split
          · rename_i h; rw [h]
          · simp
        rw [← e2]; exact q
      exact ⟨g, 0, x.2.1, x.2.2, rfl, hg, hcell 0 _ (by omega) rfl, hcell 1 _ (by omega) rfl, hcell 2 _ (by omega) rfl, hcell 3 _ (by omega) rfl, hcell 4 _ (by omega) rfl, hcell 5 _ (by omega) rfl, hcell 6 _ (by omega) rfl, hcell 7 _ (by omega) rfl, k1, k2, k3, k4, k5⟩
theorem info34 : (Try.prog.info? 34).map (fun i => (i.zero, i.size, i.bytes)) = some (some (.agg #[.int .i64 0, .int .i64 0, .int .i64 0, .int .i64 0, .int .i64 0, .int .i64 0, .int .i64 0, .slice none 0 0]), 8, 80) := by kernel_rfl
end Go.Proofs.Ytkkcfielmpjgeaa
