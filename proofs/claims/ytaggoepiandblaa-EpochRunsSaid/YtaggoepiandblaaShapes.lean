/- What the arguments' types read as. Printed by wip/tools/genrow.py. -/
import Derived.Test.YtaggoepiandblaaBase
namespace Go.Proofs.Ytaggoepiandblaa
open Go.RowKit Go.ChangeShapes Go.WideShapes
section
variable {H : Type} {enc : TypeId × Value → H} {w : World}
theorem cells3 : Try.prog.cellsOf 3 = 1 := by kernel_rfl
def Q3 (cs : List Value) : Prop := ∃ (n0 : Int), cs = [.int .i64 n0] ∧ (Lit.int .i64 n0).wf = true
theorem q3 {fuel : Nat} {cs : List Value} {x : DataW H × List MemPlace} (h : DataW.trod enc Try.prog w 0 (fun _ => true) true fuel 3 cs = some x) : Q3 cs := by
  obtain ⟨n0, h1, _, h2⟩ := DataW.trod_int Try.underlying3 h
  exact ⟨n0, h1, h2⟩
theorem cells4 : Try.prog.cellsOf 4 = 1 := by kernel_rfl
def Q4 (cs : List Value) : Prop := ∃ (n0 : Bool), cs = [.bool n0]
theorem q4 {fuel : Nat} {cs : List Value} {x : DataW H × List MemPlace} (h : DataW.trod enc Try.prog w 0 (fun _ => true) true fuel 4 cs = some x) : Q4 cs := by
  obtain ⟨n0, h1, _⟩ := DataW.trod_bool Try.underlying4 h
  exact ⟨n0, h1⟩
theorem cells5 : Try.prog.cellsOf 5 = 1 := by kernel_rfl
def Q5 (cs : List Value) : Prop := ∃ (n0 : Int), cs = [.int .u8 n0] ∧ (Lit.int .u8 n0).wf = true
theorem q5 {fuel : Nat} {cs : List Value} {x : DataW H × List MemPlace} (h : DataW.trod enc Try.prog w 0 (fun _ => true) true fuel 5 cs = some x) : Q5 cs := by
  obtain ⟨n0, h1, _, h2⟩ := DataW.trod_int Try.underlying5 h
  exact ⟨n0, h1, h2⟩
theorem cells28 : Try.prog.cellsOf 28 = 1 := by kernel_rfl
def Q28 (w : World) (cs : List Value) : Prop := ∃ (n0 : Option Addr) (n0n : Nat) (n0c : Nat), cs = [.slice n0 n0n n0c] ∧ Vec w n0 n0n n0c 1 (Q3)
theorem q28 {fuel : Nat} {cs : List Value} {x : DataW H × List MemPlace} (h : DataW.trod enc Try.prog w 0 (fun _ => true) true fuel 28 cs = some x) : Q28 w cs := by
  have h' := h
  rcases Go.Deep.open_slice Try.underlying28 h' with ⟨rfl, _⟩ | ⟨a, len, cap, _, _, _, _, rfl, _⟩
  · exact ⟨none, 0, 0, rfl, vec_of (Q3) Try.underlying28 (by kernel_rfl) (by omega) (fun _ _ _ h => q3 h) ⟨_, h⟩⟩
  · exact ⟨some a, len, cap, rfl, vec_of (Q3) Try.underlying28 (by kernel_rfl) (by omega) (fun _ _ _ h => q3 h) ⟨_, h⟩⟩
theorem cells29 : Try.prog.cellsOf 29 = 3 := by kernel_rfl
def Q29 (w : World) (cs : List Value) : Prop := ∃ (n0 : Int) (n1 : Int) (n2 : Option Addr) (n2n : Nat) (n2c : Nat), cs = [.int .i64 n0, .int .i64 n1, .slice n2 n2n n2c] ∧ (Lit.int .i64 n0).wf = true ∧ (Lit.int .i64 n1).wf = true ∧ Vec w n2 n2n n2c 1 (Q3)
theorem q29 {fuel : Nat} {cs : List Value} {x : DataW H × List MemPlace} (h : DataW.trod enc Try.prog w 0 (fun _ => true) true fuel 29 cs = some x) : Q29 w cs := by
  obtain ⟨xs, _, _, _, hl, hxs, hf⟩ := DataW.trod_struct Try.underlying29 h
  rw [cells29] at hl
  match cs, hl with
  | [c0, c1, c2], _ =>
    have e0 := hf 0 _ rfl
    have g0 : DataW.trod enc Try.prog w 0 (fun _ => true) true _ 3 [c0] = xs[0]? := e0
    rw [List.getElem?_eq_getElem (by rw [hxs]; decide)] at g0
    have e1 := hf 1 _ rfl
    have g1 : DataW.trod enc Try.prog w 0 (fun _ => true) true _ 3 [c1] = xs[1]? := e1
    rw [List.getElem?_eq_getElem (by rw [hxs]; decide)] at g1
    have e2 := hf 2 _ rfl
    have g2 : DataW.trod enc Try.prog w 0 (fun _ => true) true _ 28 [c2] = xs[2]? := e2
    rw [List.getElem?_eq_getElem (by rw [hxs]; decide)] at g2
    obtain ⟨p0_0, s0, r0_0⟩ := q3 g0
    simp only [List.cons.injEq, and_true] at s0
    subst s0
    obtain ⟨p1_0, s1, r1_0⟩ := q3 g1
    simp only [List.cons.injEq, and_true] at s1
    subst s1
    obtain ⟨p2_0, p2_0n, p2_0c, s2, r2_0⟩ := q28 g2
    simp only [List.cons.injEq, and_true] at s2
    subst s2
    exact ⟨p0_0, p1_0, p2_0, p2_0n, p2_0c, rfl, r0_0, r1_0, r2_0⟩
theorem qN30 {fuel : Nat} {cs : List Value} {x : DataW H × List MemPlace} (h : DataW.trod enc Try.prog w 0 (fun _ => true) true fuel 30 cs = some x) : Q29 w cs := by
  obtain ⟨xs, _, _, _, hl, hxs, hf⟩ := DataW.trod_struct Try.underlying30 h
  rw [show Try.prog.cellsOf 30 = 3 from by kernel_rfl] at hl
  match cs, hl with
  | [c0, c1, c2], _ =>
    have e0 := hf 0 _ rfl
    have g0 : DataW.trod enc Try.prog w 0 (fun _ => true) true _ 3 [c0] = xs[0]? := e0
    rw [List.getElem?_eq_getElem (by rw [hxs]; decide)] at g0
    have e1 := hf 1 _ rfl
    have g1 : DataW.trod enc Try.prog w 0 (fun _ => true) true _ 3 [c1] = xs[1]? := e1
    rw [List.getElem?_eq_getElem (by rw [hxs]; decide)] at g1
    have e2 := hf 2 _ rfl
    have g2 : DataW.trod enc Try.prog w 0 (fun _ => true) true _ 28 [c2] = xs[2]? := e2
    rw [List.getElem?_eq_getElem (by rw [hxs]; decide)] at g2
    obtain ⟨p0_0, s0, r0_0⟩ := q3 g0
    simp only [List.cons.injEq, and_true] at s0
    subst s0
    obtain ⟨p1_0, s1, r1_0⟩ := q3 g1
    simp only [List.cons.injEq, and_true] at s1
    subst s1
    obtain ⟨p2_0, p2_0n, p2_0c, s2, r2_0⟩ := q28 g2
    simp only [List.cons.injEq, and_true] at s2
    subst s2
    exact ⟨p0_0, p1_0, p2_0, p2_0n, p2_0c, rfl, r0_0, r1_0, r2_0⟩
theorem cells22 : Try.prog.cellsOf 22 = 1 := by kernel_rfl
def Q22 (w : World) (cs : List Value) : Prop := ∃ (n0 : Option Addr) (n0n : Nat) (n0c : Nat), cs = [.slice n0 n0n n0c] ∧ Vec w n0 n0n n0c 3 (Q29 w)
theorem q22 {fuel : Nat} {cs : List Value} {x : DataW H × List MemPlace} (h : DataW.trod enc Try.prog w 0 (fun _ => true) true fuel 22 cs = some x) : Q22 w cs := by
  have h' := h
  rcases Go.Deep.open_slice Try.underlying22 h' with ⟨rfl, _⟩ | ⟨a, len, cap, _, _, _, _, rfl, _⟩
  · exact ⟨none, 0, 0, rfl, vec_of (Q29 w) Try.underlying22 (by kernel_rfl) (by omega) (fun _ _ _ h => qN30 h) ⟨_, h⟩⟩
  · exact ⟨some a, len, cap, rfl, vec_of (Q29 w) Try.underlying22 (by kernel_rfl) (by omega) (fun _ _ _ h => qN30 h) ⟨_, h⟩⟩
end
end Go.Proofs.Ytaggoepiandblaa
