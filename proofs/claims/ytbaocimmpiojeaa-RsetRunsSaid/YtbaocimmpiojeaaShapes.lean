/- What the arguments' types read as. Printed by wip/tools/genrow.py. -/
import Derived.Test.YtbaocimmpiojeaaBase
namespace Go.Proofs.Ytbaocimmpiojeaa
open Go.RowKit Go.ChangeShapes Go.WideShapes
section
variable {H : Type} {enc : TypeId × Value → H} {w : World}
theorem cells5 : Try.prog.cellsOf 5 = 1 := by kernel_rfl
def Q5 (cs : List Value) : Prop := ∃ (n0 : Int), cs = [.int .u8 n0] ∧ (Lit.int .u8 n0).wf = true
theorem q5 {fuel : Nat} {cs : List Value} {x : DataW H × List MemPlace} (h : DataW.trod enc Try.prog w 0 (fun _ => true) true fuel 5 cs = some x) : Q5 cs := by
  obtain ⟨n0, h1, _, h2⟩ := DataW.trod_int Try.underlying5 h
  exact ⟨n0, h1, h2⟩
theorem cells3 : Try.prog.cellsOf 3 = 1 := by kernel_rfl
def Q3 (cs : List Value) : Prop := ∃ (n0 : Int), cs = [.int .i64 n0] ∧ (Lit.int .i64 n0).wf = true
theorem q3 {fuel : Nat} {cs : List Value} {x : DataW H × List MemPlace} (h : DataW.trod enc Try.prog w 0 (fun _ => true) true fuel 3 cs = some x) : Q3 cs := by
  obtain ⟨n0, h1, _, h2⟩ := DataW.trod_int Try.underlying3 h
  exact ⟨n0, h1, h2⟩
theorem cells30 : Try.prog.cellsOf 30 = 3 := by kernel_rfl
def Q30 (cs : List Value) : Prop := ∃ (n0 : Int) (n1 : Int) (n2 : Int), cs = [.int .u8 n0, .int .i64 n1, .int .i64 n2] ∧ (Lit.int .u8 n0).wf = true ∧ (Lit.int .i64 n1).wf = true ∧ (Lit.int .i64 n2).wf = true
theorem q30 {fuel : Nat} {cs : List Value} {x : DataW H × List MemPlace} (h : DataW.trod enc Try.prog w 0 (fun _ => true) true fuel 30 cs = some x) : Q30 cs := by
  obtain ⟨xs, _, _, _, hl, hxs, hf⟩ := DataW.trod_struct Try.underlying30 h
  rw [cells30] at hl
  match cs, hl with
  | [c0, c1, c2], _ =>
    have e0 := hf 0 _ rfl
    have g0 : DataW.trod enc Try.prog w 0 (fun _ => true) true _ 5 [c0] = xs[0]? := e0
    rw [List.getElem?_eq_getElem (by rw [hxs]; decide)] at g0
    have e1 := hf 1 _ rfl
    have g1 : DataW.trod enc Try.prog w 0 (fun _ => true) true _ 3 [c1] = xs[1]? := e1
    rw [List.getElem?_eq_getElem (by rw [hxs]; decide)] at g1
    have e2 := hf 2 _ rfl
    have g2 : DataW.trod enc Try.prog w 0 (fun _ => true) true _ 3 [c2] = xs[2]? := e2
    rw [List.getElem?_eq_getElem (by rw [hxs]; decide)] at g2
    obtain ⟨p0_0, s0, r0_0⟩ := q5 g0
    simp only [List.cons.injEq, and_true] at s0
    subst s0
    obtain ⟨p1_0, s1, r1_0⟩ := q3 g1
    simp only [List.cons.injEq, and_true] at s1
    subst s1
    obtain ⟨p2_0, s2, r2_0⟩ := q3 g2
    simp only [List.cons.injEq, and_true] at s2
    subst s2
    exact ⟨p0_0, p1_0, p2_0, rfl, r0_0, r1_0, r2_0⟩

theorem qN31 {fuel : Nat} {cs : List Value} {x : DataW H × List MemPlace} (h : DataW.trod enc Try.prog w 0 (fun _ => true) true fuel 31 cs = some x) : Q30 cs := by
  obtain ⟨xs, _, _, _, hl, hxs, hf⟩ := DataW.trod_struct Try.underlying31 h
  rw [show Try.prog.cellsOf 31 = 3 from by kernel_rfl] at hl
  match cs, hl with
  | [c0, c1, c2], _ =>
    have e0 := hf 0 _ rfl
    have g0 : DataW.trod enc Try.prog w 0 (fun _ => true) true _ 5 [c0] = xs[0]? := e0
    rw [List.getElem?_eq_getElem (by rw [hxs]; decide)] at g0
    have e1 := hf 1 _ rfl
    have g1 : DataW.trod enc Try.prog w 0 (fun _ => true) true _ 3 [c1] = xs[1]? := e1
    rw [List.getElem?_eq_getElem (by rw [hxs]; decide)] at g1
    have e2 := hf 2 _ rfl
    have g2 : DataW.trod enc Try.prog w 0 (fun _ => true) true _ 3 [c2] = xs[2]? := e2
    rw [List.getElem?_eq_getElem (by rw [hxs]; decide)] at g2
    obtain ⟨p0_0, s0, r0_0⟩ := q5 g0
    simp only [List.cons.injEq, and_true] at s0
    subst s0
    obtain ⟨p1_0, s1, r1_0⟩ := q3 g1
    simp only [List.cons.injEq, and_true] at s1
    subst s1
    obtain ⟨p2_0, s2, r2_0⟩ := q3 g2
    simp only [List.cons.injEq, and_true] at s2
    subst s2
    exact ⟨p0_0, p1_0, p2_0, rfl, r0_0, r1_0, r2_0⟩
end
end Go.Proofs.Ytbaocimmpiojeaa
