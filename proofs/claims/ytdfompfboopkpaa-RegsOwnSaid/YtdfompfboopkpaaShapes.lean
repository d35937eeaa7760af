/- What the arguments' types read as. Printed by wip/tools/genrow.py. -/
import Derived.Test.YtdfompfboopkpaaBase
namespace Go.Proofs.Ytdfompfboopkpaa
open Go.RowKit Go.ChangeShapes Go.WideShapes
section
variable {H : Type} {enc : TypeId × Value → H} {w : World}
theorem cells3 : Try.prog.cellsOf 3 = 1 := by kernel_rfl
def Q3 (cs : List Value) : Prop := ∃ (n0 : Int), cs = [.int .i64 n0] ∧ (Lit.int .i64 n0).wf = true
theorem q3 {fuel : Nat} {cs : List Value} {x : DataW H × List MemPlace} (h : DataW.trod enc Try.prog w 0 (fun _ => true) true fuel 3 cs = some x) : Q3 cs := by
  obtain ⟨n0, h1, _, h2⟩ := DataW.trod_int Try.underlying3 h
  exact ⟨n0, h1, h2⟩
theorem qN26 {fuel : Nat} {cs : List Value} {x : DataW H × List MemPlace} (h : DataW.trod enc Try.prog w 0 (fun _ => true) true fuel 26 cs = some x) : Q3 cs := by
  obtain ⟨n0, h1, _, h2⟩ := DataW.trod_int Try.underlying26 h
  exact ⟨n0, h1, h2⟩
theorem qN22 {fuel : Nat} {cs : List Value} {x : DataW H × List MemPlace} (h : DataW.trod enc Try.prog w 0 (fun _ => true) true fuel 22 cs = some x) : Q3 cs := by
  obtain ⟨n0, h1, _, h2⟩ := DataW.trod_int Try.underlying22 h
  exact ⟨n0, h1, h2⟩
theorem cells23 : Try.prog.cellsOf 23 = 2 := by kernel_rfl
def Q23 (cs : List Value) : Prop := ∃ (n0 : Int) (n1 : Int), cs = [.int .i64 n0, .int .i64 n1] ∧ (Lit.int .i64 n0).wf = true ∧ (Lit.int .i64 n1).wf = true
theorem q23 {fuel : Nat} {cs : List Value} {x : DataW H × List MemPlace} (h : DataW.trod enc Try.prog w 0 (fun _ => true) true fuel 23 cs = some x) : Q23 cs := by
  obtain ⟨xs, _, _, _, hl, hxs, hf⟩ := DataW.trod_struct Try.underlying23 h
  rw [cells23] at hl
  match cs, hl with
  | [c0, c1], _ =>
    have e0 := hf 0 _ rfl
    have g0 : DataW.trod enc Try.prog w 0 (fun _ => true) true _ 22 [c0] = xs[0]? := e0
    rw [List.getElem?_eq_getElem (by rw [hxs]; decide)] at g0
    have e1 := hf 1 _ rfl
    have g1 : DataW.trod enc Try.prog w 0 (fun _ => true) true _ 3 [c1] = xs[1]? := e1
    rw [List.getElem?_eq_getElem (by rw [hxs]; decide)] at g1
    obtain ⟨p0_0, s0, r0_0⟩ := qN22 g0
    simp only [List.cons.injEq, and_true] at s0
    subst s0
    obtain ⟨p1_0, s1, r1_0⟩ := q3 g1
    simp only [List.cons.injEq, and_true] at s1
    subst s1
    exact ⟨p0_0, p1_0, rfl, r0_0, r1_0⟩
theorem qN24 {fuel : Nat} {cs : List Value} {x : DataW H × List MemPlace} (h : DataW.trod enc Try.prog w 0 (fun _ => true) true fuel 24 cs = some x) : Q23 cs := by
  obtain ⟨xs, _, _, _, hl, hxs, hf⟩ := DataW.trod_struct Try.underlying24 h
  rw [show Try.prog.cellsOf 24 = 2 from by kernel_rfl] at hl
  match cs, hl with
  | [c0, c1], _ =>
    have e0 := hf 0 _ rfl
    have g0 : DataW.trod enc Try.prog w 0 (fun _ => true) true _ 22 [c0] = xs[0]? := e0
    rw [List.getElem?_eq_getElem (by rw [hxs]; decide)] at g0
    have e1 := hf 1 _ rfl
    have g1 : DataW.trod enc Try.prog w 0 (fun _ => true) true _ 3 [c1] = xs[1]? := e1
    rw [List.getElem?_eq_getElem (by rw [hxs]; decide)] at g1
    obtain ⟨p0_0, s0, r0_0⟩ := qN22 g0
    simp only [List.cons.injEq, and_true] at s0
    subst s0
    obtain ⟨p1_0, s1, r1_0⟩ := q3 g1
    simp only [List.cons.injEq, and_true] at s1
    subst s1
    exact ⟨p0_0, p1_0, rfl, r0_0, r1_0⟩
theorem cells25 : Try.prog.cellsOf 25 = 16 := by kernel_rfl
def Q25 (cs : List Value) : Prop := ∃ (n0 : Int) (n1 : Int) (n2 : Int) (n3 : Int) (n4 : Int) (n5 : Int) (n6 : Int) (n7 : Int) (n8 : Int) (n9 : Int) (n10 : Int) (n11 : Int) (n12 : Int) (n13 : Int) (n14 : Int) (n15 : Int), cs = [.int .i64 n0, .int .i64 n1, .int .i64 n2, .int .i64 n3, .int .i64 n4, .int .i64 n5, .int .i64 n6, .int .i64 n7, .int .i64 n8, .int .i64 n9, .int .i64 n10, .int .i64 n11, .int .i64 n12, .int .i64 n13, .int .i64 n14, .int .i64 n15] ∧ (Lit.int .i64 n0).wf = true ∧ (Lit.int .i64 n1).wf = true ∧ (Lit.int .i64 n2).wf = true ∧ (Lit.int .i64 n3).wf = true ∧ (Lit.int .i64 n4).wf = true ∧ (Lit.int .i64 n5).wf = true ∧ (Lit.int .i64 n6).wf = true ∧ (Lit.int .i64 n7).wf = true ∧ (Lit.int .i64 n8).wf = true ∧ (Lit.int .i64 n9).wf = true ∧ (Lit.int .i64 n10).wf = true ∧ (Lit.int .i64 n11).wf = true ∧ (Lit.int .i64 n12).wf = true ∧ (Lit.int .i64 n13).wf = true ∧ (Lit.int .i64 n14).wf = true ∧ (Lit.int .i64 n15).wf = true
theorem q25 {fuel : Nat} {cs : List Value} {x : DataW H × List MemPlace} (h : DataW.trod enc Try.prog w 0 (fun _ => true) true fuel 25 cs = some x) : Q25 cs := by
  obtain ⟨xs, _, _, _, hl, hxs, hf⟩ := DataW.trod_array Try.underlying25 h
  rw [cells25] at hl
  match cs, hl with
  | [c0, c1, c2, c3, c4, c5, c6, c7, c8, c9, c10, c11, c12, c13, c14, c15], _ =>
    have e0 := hf 0 (by omega)
    rw [show Try.prog.cellsOf 24 = 2 from by kernel_rfl] at e0
    have g0 : DataW.trod enc Try.prog w 0 (fun _ => true) true _ 24 [c0, c1] = xs[0]? := e0
    rw [List.getElem?_eq_getElem (by rw [hxs]; omega)] at g0
    have e1 := hf 1 (by omega)
    rw [show Try.prog.cellsOf 24 = 2 from by kernel_rfl] at e1
    have g1 : DataW.trod enc Try.prog w 0 (fun _ => true) true _ 24 [c2, c3] = xs[1]? := e1
    rw [List.getElem?_eq_getElem (by rw [hxs]; omega)] at g1
    have e2 := hf 2 (by omega)
    rw [show Try.prog.cellsOf 24 = 2 from by kernel_rfl] at e2
    have g2 : DataW.trod enc Try.prog w 0 (fun _ => true) true _ 24 [c4, c5] = xs[2]? := e2
    rw [List.getElem?_eq_getElem (by rw [hxs]; omega)] at g2
    have e3 := hf 3 (by omega)
    rw [show Try.prog.cellsOf 24 = 2 from by kernel_rfl] at e3
    have g3 : DataW.trod enc Try.prog w 0 (fun _ => true) true _ 24 [c6, c7] = xs[3]? := e3
    rw [List.getElem?_eq_getElem (by rw [hxs]; omega)] at g3
    have e4 := hf 4 (by omega)
    rw [show Try.prog.cellsOf 24 = 2 from by kernel_rfl] at e4
    have g4 : DataW.trod enc Try.prog w 0 (fun _ => true) true _ 24 [c8, c9] = xs[4]? := e4
    rw [List.getElem?_eq_getElem (by rw [hxs]; omega)] at g4
    have e5 := hf 5 (by omega)
    rw [show Try.prog.cellsOf 24 = 2 from by kernel_rfl] at e5
    have g5 : DataW.trod enc Try.prog w 0 (fun _ => true) true _ 24 [c10, c11] = xs[5]? := e5
    rw [List.getElem?_eq_getElem (by rw [hxs]; omega)] at g5
    have e6 := hf 6 (by omega)
    rw [show Try.prog.cellsOf 24 = 2 from by kernel_rfl] at e6
    have g6 : DataW.trod enc Try.prog w 0 (fun _ => true) true _ 24 [c12, c13] = xs[6]? := e6
    rw [List.getElem?_eq_getElem (by rw [hxs]; omega)] at g6
    have e7 := hf 7 (by omega)
    rw [show Try.prog.cellsOf 24 = 2 from by kernel_rfl] at e7
    have g7 : DataW.trod enc Try.prog w 0 (fun _ => true) true _ 24 [c14, c15] = xs[7]? := e7
    rw [List.getElem?_eq_getElem (by rw [hxs]; omega)] at g7
    obtain ⟨p0_0, p0_1, s0, r0_0, r0_1⟩ := qN24 g0
    simp only [List.cons.injEq, and_true] at s0
    obtain ⟨rfl, rfl⟩ := s0
    obtain ⟨p1_0, p1_1, s1, r1_0, r1_1⟩ := qN24 g1
    simp only [List.cons.injEq, and_true] at s1
    obtain ⟨rfl, rfl⟩ := s1
    obtain ⟨p2_0, p2_1, s2, r2_0, r2_1⟩ := qN24 g2
    simp only [List.cons.injEq, and_true] at s2
    obtain ⟨rfl, rfl⟩ := s2
    obtain ⟨p3_0, p3_1, s3, r3_0, r3_1⟩ := qN24 g3
    simp only [List.cons.injEq, and_true] at s3
    obtain ⟨rfl, rfl⟩ := s3
    obtain ⟨p4_0, p4_1, s4, r4_0, r4_1⟩ := qN24 g4
    simp only [List.cons.injEq, and_true] at s4
    obtain ⟨rfl, rfl⟩ := s4
    obtain ⟨p5_0, p5_1, s5, r5_0, r5_1⟩ := qN24 g5
    simp only [List.cons.injEq, and_true] at s5
    obtain ⟨rfl, rfl⟩ := s5
    obtain ⟨p6_0, p6_1, s6, r6_0, r6_1⟩ := qN24 g6
    simp only [List.cons.injEq, and_true] at s6
    obtain ⟨rfl, rfl⟩ := s6
    obtain ⟨p7_0, p7_1, s7, r7_0, r7_1⟩ := qN24 g7
    simp only [List.cons.injEq, and_true] at s7
    obtain ⟨rfl, rfl⟩ := s7
    exact ⟨p0_0, p0_1, p1_0, p1_1, p2_0, p2_1, p3_0, p3_1, p4_0, p4_1, p5_0, p5_1, p6_0, p6_1, p7_0, p7_1, rfl, r0_0, r0_1, r1_0, r1_1, r2_0, r2_1, r3_0, r3_1, r4_0, r4_1, r5_0, r5_1, r6_0, r6_1, r7_0, r7_1⟩
theorem cells27 : Try.prog.cellsOf 27 = 4 := by kernel_rfl
def Q27 (cs : List Value) : Prop := ∃ (n0 : Int) (n1 : Int) (n2 : Int) (n3 : Int), cs = [.int .i64 n0, .int .i64 n1, .int .i64 n2, .int .i64 n3] ∧ (Lit.int .i64 n0).wf = true ∧ (Lit.int .i64 n1).wf = true ∧ (Lit.int .i64 n2).wf = true ∧ (Lit.int .i64 n3).wf = true
theorem q27 {fuel : Nat} {cs : List Value} {x : DataW H × List MemPlace} (h : DataW.trod enc Try.prog w 0 (fun _ => true) true fuel 27 cs = some x) : Q27 cs := by
  obtain ⟨xs, _, _, _, hl, hxs, hf⟩ := DataW.trod_struct Try.underlying27 h
  rw [cells27] at hl
  match cs, hl with
  | [c0, c1, c2, c3], _ =>
    have e0 := hf 0 _ rfl
    have g0 : DataW.trod enc Try.prog w 0 (fun _ => true) true _ 26 [c0] = xs[0]? := e0
    rw [List.getElem?_eq_getElem (by rw [hxs]; decide)] at g0
    have e1 := hf 1 _ rfl
    have g1 : DataW.trod enc Try.prog w 0 (fun _ => true) true _ 3 [c1] = xs[1]? := e1
    rw [List.getElem?_eq_getElem (by rw [hxs]; decide)] at g1
    have e2 := hf 2 _ rfl
    have g2 : DataW.trod enc Try.prog w 0 (fun _ => true) true _ 3 [c2] = xs[2]? := e2
    rw [List.getElem?_eq_getElem (by rw [hxs]; decide)] at g2
    have e3 := hf 3 _ rfl
    have g3 : DataW.trod enc Try.prog w 0 (fun _ => true) true _ 3 [c3] = xs[3]? := e3
    rw [List.getElem?_eq_getElem (by rw [hxs]; decide)] at g3
    obtain ⟨p0_0, s0, r0_0⟩ := qN26 g0
    simp only [List.cons.injEq, and_true] at s0
    subst s0
    obtain ⟨p1_0, s1, r1_0⟩ := q3 g1
    simp only [List.cons.injEq, and_true] at s1
    subst s1
    obtain ⟨p2_0, s2, r2_0⟩ := q3 g2
    simp only [List.cons.injEq, and_true] at s2
    subst s2
    obtain ⟨p3_0, s3, r3_0⟩ := q3 g3
    simp only [List.cons.injEq, and_true] at s3
    subst s3
    exact ⟨p0_0, p1_0, p2_0, p3_0, rfl, r0_0, r1_0, r2_0, r3_0⟩
theorem qN28 {fuel : Nat} {cs : List Value} {x : DataW H × List MemPlace} (h : DataW.trod enc Try.prog w 0 (fun _ => true) true fuel 28 cs = some x) : Q27 cs := by
  obtain ⟨xs, _, _, _, hl, hxs, hf⟩ := DataW.trod_struct Try.underlying28 h
  rw [show Try.prog.cellsOf 28 = 4 from by kernel_rfl] at hl
  match cs, hl with
  | [c0, c1, c2, c3], _ =>
    have e0 := hf 0 _ rfl
    have g0 : DataW.trod enc Try.prog w 0 (fun _ => true) true _ 26 [c0] = xs[0]? := e0
    rw [List.getElem?_eq_getElem (by rw [hxs]; decide)] at g0
    have e1 := hf 1 _ rfl
    have g1 : DataW.trod enc Try.prog w 0 (fun _ => true) true _ 3 [c1] = xs[1]? := e1
    rw [List.getElem?_eq_getElem (by rw [hxs]; decide)] at g1
    have e2 := hf 2 _ rfl
    have g2 : DataW.trod enc Try.prog w 0 (fun _ => true) true _ 3 [c2] = xs[2]? := e2
    rw [List.getElem?_eq_getElem (by rw [hxs]; decide)] at g2
    have e3 := hf 3 _ rfl
    have g3 : DataW.trod enc Try.prog w 0 (fun _ => true) true _ 3 [c3] = xs[3]? := e3
    rw [List.getElem?_eq_getElem (by rw [hxs]; decide)] at g3
    obtain ⟨p0_0, s0, r0_0⟩ := qN26 g0
    simp only [List.cons.injEq, and_true] at s0
    subst s0
    obtain ⟨p1_0, s1, r1_0⟩ := q3 g1
    simp only [List.cons.injEq, and_true] at s1
    subst s1
    obtain ⟨p2_0, s2, r2_0⟩ := q3 g2
    simp only [List.cons.injEq, and_true] at s2
    subst s2
    obtain ⟨p3_0, s3, r3_0⟩ := q3 g3
    simp only [List.cons.injEq, and_true] at s3
    subst s3
    exact ⟨p0_0, p1_0, p2_0, p3_0, rfl, r0_0, r1_0, r2_0, r3_0⟩
theorem cells39 : Try.prog.cellsOf 39 = 1 := by kernel_rfl
def Q39 (w : World) (cs : List Value) : Prop := ∃ (n0 : Option Addr) (n0n : Nat) (n0c : Nat), cs = [.slice n0 n0n n0c] ∧ Vec w n0 n0n n0c 4 (Q27)
theorem q39 {fuel : Nat} {cs : List Value} {x : DataW H × List MemPlace} (h : DataW.trod enc Try.prog w 0 (fun _ => true) true fuel 39 cs = some x) : Q39 w cs := by
  have h' := h
  rcases Go.Deep.open_slice Try.underlying39 h' with ⟨rfl, _⟩ | ⟨a, len, cap, _, _, _, _, rfl, _⟩
  · exact ⟨none, 0, 0, rfl, vec_of (Q27) Try.underlying39 (by kernel_rfl) (by omega) (fun _ _ _ h => qN28 h) ⟨_, h⟩⟩
  · exact ⟨some a, len, cap, rfl, vec_of (Q27) Try.underlying39 (by kernel_rfl) (by omega) (fun _ _ _ h => qN28 h) ⟨_, h⟩⟩
end
end Go.Proofs.Ytdfompfboopkpaa
