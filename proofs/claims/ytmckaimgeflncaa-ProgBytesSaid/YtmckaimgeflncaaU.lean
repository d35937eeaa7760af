/- The law InstrBack. -/
import Derived.Test.YtmckaimgeflncaaT
import Derived.Test.YtmckaimgeflncaaShapes
import Derived.Laws.AppendOwnNone
namespace Go.Proofs.Ytmckaimgeflncaa
open Go.RowKit
set_option linter.unusedVariables false


/-- the bytes of a slice that came in -/
theorem vec_bytes {w : World} {ao : Option Addr} {n c : Nat} (h : Vec w ao n c 1 Q5) : ∀ m, m ≤ n → ∃ L : List Int, L.length = m ∧ BRow w ao L := fun m => by
  induction m with
  | zero => exact fun _ => ⟨[], rfl, fun i x hx => by cases hx⟩
  | succ m ih =>
    intro hm
    obtain ⟨L, hl, hL⟩ := ih (by omega)
    obtain ⟨b, off, v, rfl, hq, hc⟩ := h.at1 m (by omega)
    obtain ⟨x, hx, hwf⟩ := hq
    cases hx
    have hxx : 0 ≤ x ∧ x ≤ 255 := by simpa [Lit.wf, IntKind.min, IntKind.max, IntKind.signed, IntKind.bits] using hwf
    refine ⟨L ++ [x], by simp [hl], fun i y hy => ?_⟩
    by_cases e : i < L.length
    · rw [List.getElem?_append_left e] at hy
      exact hL i y hy
    · have hi := (List.getElem?_eq_some_iff.1 hy).1
      simp at hi
      obtain rfl : i = L.length := by omega
      rw [List.getElem?_append_right (Nat.le_refl _), Nat.sub_self] at hy
      cases hy
      exact ⟨hxx, b, off, rfl, by rw [hl]; exact hc⟩
theorem brow_own {w : World} {base : Nat} {v : Value} {n : Nat} {M : List Int} (h : w.ownsRow base 5 1 v n (byV M)) (hb : ∀ x ∈ M, 0 ≤ x ∧ x ≤ 255) :
    ∃ ao c, v = .slice ao n c ∧ BRow w ao M ∧ M.length = n ∧ n ≤ c ∧ c ≤ 9223372036854775807 ∧ (0 < n → ∃ g, ao = some ⟨g, 0, none⟩ ∧ base ≤ g ∧ g < w.heap.size) := by
  have hl := h.1
  rw [byV_length, Nat.mul_one] at hl
  have hcs := fun g hg => h.cells (g := g) hg
  rcases h.2 with ⟨rfl, rfl⟩ | ⟨g, cap, cur, rfl, hbg, hh, h1, h2, h3, h4⟩
  · have : M = [] := List.eq_nil_of_length_eq_zero hl
    subst this
    exact ⟨none, 0, rfl, fun i x hx => (by cases hx), rfl, Nat.le_refl _, by omega, fun h => by omega⟩
  · refine ⟨_, cap, rfl, fun i x hx => ⟨hb x (List.mem_of_getElem? hx), g, 0, rfl, ?_⟩, hl, h1, by unfold maxLen at h2; omega, fun _ => ⟨g, rfl, hbg, (Array.getElem?_eq_some_iff.1 hh).1⟩⟩
    have hv : (byV M)[i]? = some (.int .u8 x) := by
      unfold byV
      rw [List.getElem?_map, hx]
      rfl
    have := hcs g rfl i _ hv
    rwa [Addr.add_lit] at this
theorem run_append_empty {P : Program} {w : World} (base : Nat) (t ty e : TypeId) (i : TypeInfo) (size : Nat) (ht : P.underlying t = some (.slice e)) (hi : P.info? e = some i)
    (v : Value) (n : Nat) (xs : List Value) (hown : w.ownsRow base e size v n xs) (ao : Option Addr) (c : Nat) :
    (Builtin.append_ #[t, t] ty #[v, .slice ao 0 c]).run P w = .ok v w := by
  rcases hown.2 with ⟨rfl, rfl⟩ | ⟨g, cap, cur, rfl, _, _, hnc, _⟩
  · cases ao <;> simp [Builtin.append_, run_underlying ht, sizeOf, typeInfo, hi, Builtin.lenOf, Builtin.firstCells, loadCells, loadCellsFrom]
  · cases ao <;> simp [Builtin.append_, run_underlying ht, sizeOf, typeInfo, hi, Builtin.lenOf, Builtin.firstCells, hnc, storeCells, loadCells, loadCellsFrom]
theorem wpList_append_empty {P : Program} {w : World} {ops : Array Oper} {rest : List Oper} {o : Oper} {a : Act} {Q : Exit → Act → World → Prop} (hgd : o.guard = none) (s x : Operand) (t : TypeId)
    (ho : o.op = .call { callee := .builtin .append, args := #[s, x], argTypes := #[t, t] })
    (base : Nat) (e : TypeId) (i : TypeInfo) (size : Nat) (ht : P.underlying t = some (.slice e)) (hi : P.info? e = some i)
    (v : Value) (n : Nat) (xs : List Value) (hs : a.eval s = v) (hown : w.ownsRow base e size v n xs) (ao : Option Addr) (c : Nat) (hx : a.eval x = .slice ao 0 c)
    (h : wpList P ops Q rest (a.put o.dst v) w) : wpList P ops Q (o :: rest) a w := by
  refine wpList_plain hgd fun K hK => ?_
  have hrun := run_append_empty (P := P) (w := w) base t o.type e i size ht hi v n xs hown ao c
  unfold Oper.wp
  simp [execOp, ho, resolve, invoke, builtin, hs, hx, hrun, Result.andThen]
  exact hK _ _ h
/-- bytes as a string -/
theorem str_row {w : World} {ao : Option Addr} {n c : Nat} {L : List Int} (h : BRow w ao L) (hl : L.length = n) : (convert 23 9 (.slice ao n c)).run Try.prog w = .ok (.string (strOfNums L)) w := by
  rcases Nat.eq_zero_or_pos n with e | e
  · subst e
    have : L = [] := List.eq_nil_of_length_eq_zero hl
    subst this
    cases ao with
    | none => exact run_convert_bytes_nil (P := Try.prog) w 23 5 Try.underlying23 Try.underlying5 0 c 9 Try.underlying9
    | some a =>
      rw [run_convert_bytes_string (P := Try.prog) w 23 9 5 _ 0 c Try.underlying23 Try.underlying5 Try.underlying9, run_bytesToString (P := Try.prog) w a 0 c [] (by simp [loadCells, loadCellsFrom])]
      rfl
  · obtain ⟨x, hx⟩ : ∃ x, L[0]? = some x := ⟨L[0], List.getElem?_eq_getElem _⟩
    obtain ⟨_, b, off, rfl, _⟩ := h 0 x hx
    refine run_convert_bytes_arg (P := Try.prog) w 23 5 Try.underlying23 Try.underlying5 b off n c L hl (fun i hi => ?_) 9 Try.underlying9
    have hx : L[i]? = some (L.getD i 0) := by
      rw [List.getElem?_eq_getElem (by omega)]
      simp [List.getD, List.getElem?_eq_getElem (show i < L.length by omega)]
    obtain ⟨_, b', off', he, hc⟩ := h i _ hx
    cases he
    exact hc

end Go.Proofs.Ytmckaimgeflncaa

