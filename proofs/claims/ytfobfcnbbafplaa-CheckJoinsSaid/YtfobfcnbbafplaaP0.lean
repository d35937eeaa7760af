/- Programs: rows of instructions. -/
import Derived.Test.YtfobfcnbbafplaaShapes
namespace Go.Proofs.Ytfobfcnbbafplaa
open Go.RowKit
set_option linter.unusedVariables false
set_option linter.unusedSimpArgs false

/-- an instruction: its kind, and what it has -/
structure I4 where
  k : Int
  a : Int
  b : Int
  c : Int
deriving DecidableEq
def I4.v (x : I4) : Array Value := #[.int .i64 x.k, .int .i64 x.a, .int .i64 x.b, .int .i64 x.c]
/-- a row of instructions, of any slice -/
def IRow (w : World) (ao : Option Addr) (L : List I4) : Prop :=
  ∀ i x, L[i]? = some x → ∃ b off, ao = some ⟨b, off, none⟩ ∧ w.cell? ⟨b, off + i * 4, none⟩ = some (.int .i64 x.k) ∧ w.cell? ⟨b, off + i * 4 + 1, none⟩ = some (.int .i64 x.a) ∧ w.cell? ⟨b, off + i * 4 + 2, none⟩ = some (.int .i64 x.b) ∧ w.cell? ⟨b, off + i * 4 + 3, none⟩ = some (.int .i64 x.c)
theorem IRow.keep {w w' : World} {ao : Option Addr} {L : List I4} (h : IRow w ao L) (g : w.grownBy w' none) : IRow w' ao L := fun i x hi => by
  obtain ⟨b, off, h1, c0, c1, c2, c3⟩ := h i x hi
  exact ⟨b, off, h1, g.cell c0 (by simp), g.cell c1 (by simp), g.cell c2 (by simp), g.cell c3 (by simp)⟩
theorem irow_nil (w : World) : IRow w none [] := fun i x h => by cases h

/-- the instructions of a slice that came in -/
theorem vec_instrs {w : World} {ao : Option Addr} {n c : Nat} (h : Vec w ao n c 4 Q30) : ∀ m, m ≤ n → ∃ L : List I4, L.length = m ∧ IRow w ao L := fun m => by
  induction m with
  | zero => exact fun _ => ⟨[], rfl, fun i x hx => by cases hx⟩
  | succ m ih =>
    intro hm
    obtain ⟨L, hl, hL⟩ := ih (by omega)
    obtain ⟨b, off, cs, rfl, hlen, ⟨k0, A, B, C, rfl, _⟩, hcell⟩ := h.2.2 m (by omega)
    refine ⟨L ++ [⟨k0, A, B, C⟩], by simp [hl], fun i y hy => ?_⟩
    by_cases e : i < L.length
    · rw [List.getElem?_append_left e] at hy
      exact hL i y hy
    · have hi := (List.getElem?_eq_some_iff.1 hy).1
      simp at hi
      obtain rfl : i = L.length := by omega
      rw [List.getElem?_append_right (Nat.le_refl _), Nat.sub_self] at hy
      cases hy
      rw [hl]
      exact ⟨b, off, rfl, hcell 0 _ rfl, hcell 1 _ rfl, hcell 2 _ rfl, hcell 3 _ rfl⟩

end Go.Proofs.Ytfobfcnbbafplaa
