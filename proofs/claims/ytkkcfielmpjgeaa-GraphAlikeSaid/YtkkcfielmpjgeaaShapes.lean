/- What the arguments' types read as. Printed by wip/tools/genrow.py. -/
import Derived.Test.YtkkcfielmpjgeaaBase
namespace Go.Proofs.Ytkkcfielmpjgeaa
open Go.RowKit Go.ChangeShapes Go.WideShapes
section
variable {H : Type} {enc : TypeId × Value → H} {w : World}
theorem cells3 : Try.prog.cellsOf 3 = 1 := by kernel_rfl
def Q3 (cs : List Value) : Prop := ∃ (n0 : Int), cs = [.int .i64 n0] ∧ (Lit.int .i64 n0).wf = true
theorem q3 {fuel : Nat} {cs : List Value} {x : DataW H × List MemPlace} (h : DataW.trod enc Try.prog w 0 (fun _ => true) true fuel 3 cs = some x) : Q3 cs := by
  obtain ⟨n0, h1, _, h2⟩ := DataW.trod_int Try.underlying3 h
  exact ⟨n0, h1, h2⟩
theorem qN30 {fuel : Nat} {cs : List Value} {x : DataW H × List MemPlace} (h : DataW.trod enc Try.prog w 0 (fun _ => true) true fuel 30 cs = some x) : Q3 cs := by
  obtain ⟨n0, h1, _, h2⟩ := DataW.trod_int Try.underlying30 h
  exact ⟨n0, h1, h2⟩
theorem qN23 {fuel : Nat} {cs : List Value} {x : DataW H × List MemPlace} (h : DataW.trod enc Try.prog w 0 (fun _ => true) true fuel 23 cs = some x) : Q3 cs := by
  obtain ⟨n0, h1, _, h2⟩ := DataW.trod_int Try.underlying23 h
  exact ⟨n0, h1, h2⟩
theorem cells24 : Try.prog.cellsOf 24 = 2 := by kernel_rfl
def Q24 (cs : List Value) : Prop := ∃ (n0 : Int) (n1 : Int), cs = [.int .i64 n0, .int .i64 n1] ∧ (Lit.int .i64 n0).wf = true ∧ (Lit.int .i64 n1).wf = true
theorem q24 {fuel : Nat} {cs : List Value} {x : DataW H × List MemPlace} (h : DataW.trod enc Try.prog w 0 (fun _ => true) true fuel 24 cs = some x) : Q24 cs := by
  obtain ⟨xs, _, _, _, hl, hxs, hf⟩ := DataW.trod_struct Try.underlying24 h
  rw [cells24] at hl
  match cs, hl with
  | [c0, c1], _ =>
    have e0 := hf 0 _ rfl
    have g0 : DataW.trod enc Try.prog w 0 (fun _ => true) true _ 23 [c0] = xs[0]? := e0
    rw [List.getElem?_eq_getElem (by rw [hxs]; decide)] at g0
    have e1 := hf 1 _ rfl
    have g1 : DataW.trod enc Try.prog w 0 (fun _ => true) true _ 3 [c1] = xs[1]? := e1
    rw [List.getElem?_eq_getElem (by rw [hxs]; decide)] at g1
    obtain ⟨p0_0, s0, r0_0⟩ := qN23 g0
    simp only [List.cons.injEq, and_true] at s0
    subst s0
    obtain ⟨p1_0, s1, r1_0⟩ := q3 g1
    simp only [List.cons.injEq, and_true] at s1
    subst s1
    exact ⟨p0_0, p1_0, rfl, r0_0, r1_0⟩
theorem qN25 {fuel : Nat} {cs : List Value} {x : DataW H × List MemPlace} (h : DataW.trod enc Try.prog w 0 (fun _ => true) true fuel 25 cs = some x) : Q24 cs := by
  obtain ⟨xs, _, _, _, hl, hxs, hf⟩ := DataW.trod_struct Try.underlying25 h
  rw [show Try.prog.cellsOf 25 = 2 from by kernel_rfl] at hl
  match cs, hl with
  | [c0, c1], _ =>
    have e0 := hf 0 _ rfl
    have g0 : DataW.trod enc Try.prog w 0 (fun _ => true) true _ 23 [c0] = xs[0]? := e0
    rw [List.getElem?_eq_getElem (by rw [hxs]; decide)] at g0
    have e1 := hf 1 _ rfl
    have g1 : DataW.trod enc Try.prog w 0 (fun _ => true) true _ 3 [c1] = xs[1]? := e1
    rw [List.getElem?_eq_getElem (by rw [hxs]; decide)] at g1
    obtain ⟨p0_0, s0, r0_0⟩ := qN23 g0
    simp only [List.cons.injEq, and_true] at s0
    subst s0
    obtain ⟨p1_0, s1, r1_0⟩ := q3 g1
    simp only [List.cons.injEq, and_true] at s1
    subst s1
    exact ⟨p0_0, p1_0, rfl, r0_0, r1_0⟩
theorem cells31 : Try.prog.cellsOf 31 = 5 := by kernel_rfl
def Q31 (cs : List Value) : Prop := ∃ (n0 : Int) (n1 : Int) (n2 : Int) (n3 : Int) (n4 : Int), cs = [.int .i64 n0, .int .i64 n1, .int .i64 n2, .int .i64 n3, .int .i64 n4] ∧ (Lit.int .i64 n0).wf = true ∧ (Lit.int .i64 n1).wf = true ∧ (Lit.int .i64 n2).wf = true ∧ (Lit.int .i64 n3).wf = true ∧ (Lit.int .i64 n4).wf = true
theorem q31 {fuel : Nat} {cs : List Value} {x : DataW H × List MemPlace} (h : DataW.trod enc Try.prog w 0 (fun _ => true) true fuel 31 cs = some x) : Q31 cs := by
  obtain ⟨xs, _, _, _, hl, hxs, hf⟩ := DataW.trod_struct Try.underlying31 h
  rw [cells31] at hl
  match cs, hl with
  | [c0, c1, c2, c3, c4], _ =>
    have e0 := hf 0 _ rfl
    have g0 : DataW.trod enc Try.prog w 0 (fun _ => true) true _ 3 [c0] = xs[0]? := e0
    rw [List.getElem?_eq_getElem (by rw [hxs]; decide)] at g0
    have e1 := hf 1 _ rfl
    have g1 : DataW.trod enc Try.prog w 0 (fun _ => true) true _ 3 [c1] = xs[1]? := e1
    rw [List.getElem?_eq_getElem (by rw [hxs]; decide)] at g1
    have e2 := hf 2 _ rfl
    have g2 : DataW.trod enc Try.prog w 0 (fun _ => true) true _ 3 [c2] = xs[2]? := e2
    rw [List.getElem?_eq_getElem (by rw [hxs]; decide)] at g2
    have e3 := hf 3 _ rfl
    have g3 : DataW.trod enc Try.prog w 0 (fun _ => true) true _ 30 [c3] = xs[3]? := e3
    rw [List.getElem?_eq_getElem (by rw [hxs]; decide)] at g3
    have e4 := hf 4 _ rfl
    have g4 : DataW.trod enc Try.prog w 0 (fun _ => true) true _ 3 [c4] = xs[4]? := e4
    rw [List.getElem?_eq_getElem (by rw [hxs]; decide)] at g4
    obtain ⟨p0_0, s0, r0_0⟩ := q3 g0
    simp only [List.cons.injEq, and_true] at s0
    subst s0
    obtain ⟨p1_0, s1, r1_0⟩ := q3 g1
    simp only [List.cons.injEq, and_true] at s1
    subst s1
    obtain ⟨p2_0, s2, r2_0⟩ := q3 g2
    simp only [List.cons.injEq, and_true] at s2
    subst s2
    obtain ⟨p3_0, s3, r3_0⟩ := qN30 g3
    simp only [List.cons.injEq, and_true] at s3
    subst s3
    obtain ⟨p4_0, s4, r4_0⟩ := q3 g4
    simp only [List.cons.injEq, and_true] at s4
    subst s4
    exact ⟨p0_0, p1_0, p2_0, p3_0, p4_0, rfl, r0_0, r1_0, r2_0, r3_0, r4_0⟩
theorem qN32 {fuel : Nat} {cs : List Value} {x : DataW H × List MemPlace} (h : DataW.trod enc Try.prog w 0 (fun _ => true) true fuel 32 cs = some x) : Q31 cs := by
  obtain ⟨xs, _, _, _, hl, hxs, hf⟩ := DataW.trod_struct Try.underlying32 h
  rw [show Try.prog.cellsOf 32 = 5 from by kernel_rfl] at hl
  match cs, hl with
  | [c0, c1, c2, c3, c4], _ =>
    have e0 := hf 0 _ rfl
    have g0 : DataW.trod enc Try.prog w 0 (fun _ => true) true _ 3 [c0] = xs[0]? := e0
    rw [List.getElem?_eq_getElem (by rw [hxs]; decide)] at g0
    have e1 := hf 1 _ rfl
    have g1 : DataW.trod enc Try.prog w 0 (fun _ => true) true _ 3 [c1] = xs[1]? := e1
    rw [List.getElem?_eq_getElem (by rw [hxs]; decide)] at g1
    have e2 := hf 2 _ rfl
    have g2 : DataW.trod enc Try.prog w 0 (fun _ => true) true _ 3 [c2] = xs[2]? := e2
    rw [List.getElem?_eq_getElem (by rw [hxs]; decide)] at g2
    have e3 := hf 3 _ rfl
    have g3 : DataW.trod enc Try.prog w 0 (fun _ => true) true _ 30 [c3] = xs[3]? := e3
    rw [List.getElem?_eq_getElem (by rw [hxs]; decide)] at g3
    have e4 := hf 4 _ rfl
    have g4 : DataW.trod enc Try.prog w 0 (fun _ => true) true _ 3 [c4] = xs[4]? := e4
    rw [List.getElem?_eq_getElem (by rw [hxs]; decide)] at g4
    obtain ⟨p0_0, s0, r0_0⟩ := q3 g0
    simp only [List.cons.injEq, and_true] at s0
    subst s0
    obtain ⟨p1_0, s1, r1_0⟩ := q3 g1
    simp only [List.cons.injEq, and_true] at s1
    subst s1
    obtain ⟨p2_0, s2, r2_0⟩ := q3 g2
    simp only [List.cons.injEq, and_true] at s2
    subst s2
    obtain ⟨p3_0, s3, r3_0⟩ := qN30 g3
    simp only [List.cons.injEq, and_true] at s3
    subst s3
    obtain ⟨p4_0, s4, r4_0⟩ := q3 g4
    simp only [List.cons.injEq, and_true] at s4
    subst s4
    exact ⟨p0_0, p1_0, p2_0, p3_0, p4_0, rfl, r0_0, r1_0, r2_0, r3_0, r4_0⟩
theorem cells27 : Try.prog.cellsOf 27 = 1 := by kernel_rfl
def Q27 (w : World) (cs : List Value) : Prop := ∃ (n0 : Option Addr) (n0n : Nat) (n0c : Nat), cs = [.slice n0 n0n n0c] ∧ Vec w n0 n0n n0c 2 (Q24)
theorem q27 {fuel : Nat} {cs : List Value} {x : DataW H × List MemPlace} (h : DataW.trod enc Try.prog w 0 (fun _ => true) true fuel 27 cs = some x) : Q27 w cs := by
  have h' := h
  rcases Go.Deep.open_slice Try.underlying27 h' with ⟨rfl, _⟩ | ⟨a, len, cap, _, _, _, _, rfl, _⟩
  · exact ⟨none, 0, 0, rfl, vec_of (Q24) Try.underlying27 (by kernel_rfl) (by omega) (fun _ _ _ h => qN25 h) ⟨_, h⟩⟩
  · exact ⟨some a, len, cap, rfl, vec_of (Q24) Try.underlying27 (by kernel_rfl) (by omega) (fun _ _ _ h => qN25 h) ⟨_, h⟩⟩
theorem cells33 : Try.prog.cellsOf 33 = 8 := by kernel_rfl
def Q33 (w : World) (cs : List Value) : Prop := ∃ (n0 : Int) (n1 : Int) (n2 : Int) (n3 : Int) (n4 : Int) (n5 : Int) (n6 : Int) (n7 : Option Addr) (n7n : Nat) (n7c : Nat), cs = [.int .i64 n0, .int .i64 n1, .int .i64 n2, .int .i64 n3, .int .i64 n4, .int .i64 n5, .int .i64 n6, .slice n7 n7n n7c] ∧ (Lit.int .i64 n0).wf = true ∧ (Lit.int .i64 n1).wf = true ∧ (Lit.int .i64 n2).wf = true ∧ (Lit.int .i64 n3).wf = true ∧ (Lit.int .i64 n4).wf = true ∧ (Lit.int .i64 n5).wf = true ∧ (Lit.int .i64 n6).wf = true ∧ Vec w n7 n7n n7c 2 (Q24)
theorem q33 {fuel : Nat} {cs : List Value} {x : DataW H × List MemPlace} (h : DataW.trod enc Try.prog w 0 (fun _ => true) true fuel 33 cs = some x) : Q33 w cs := by
  obtain ⟨xs, _, _, _, hl, hxs, hf⟩ := DataW.trod_struct Try.underlying33 h
  rw [cells33] at hl
  match cs, hl with
  | [c0, c1, c2, c3, c4, c5, c6, c7], _ =>
    have e0 := hf 0 _ rfl
    have g0 : DataW.trod enc Try.prog w 0 (fun _ => true) true _ 25 [c0, c1] = xs[0]? := e0
    rw [List.getElem?_eq_getElem (by rw [hxs]; decide)] at g0
    have e1 := hf 1 _ rfl
    have g1 : DataW.trod enc Try.prog w 0 (fun _ => true) true _ 32 [c2, c3, c4, c5, c6] = xs[1]? := e1
    rw [List.getElem?_eq_getElem (by rw [hxs]; decide)] at g1
    have e2 := hf 2 _ rfl
    have g2 : DataW.trod enc Try.prog w 0 (fun _ => true) true _ 27 [c7] = xs[2]? := e2
    rw [List.getElem?_eq_getElem (by rw [hxs]; decide)] at g2
    obtain ⟨p0_0, p0_1, s0, r0_0, r0_1⟩ := qN25 g0
    simp only [List.cons.injEq, and_true] at s0
    obtain ⟨rfl, rfl⟩ := s0
    obtain ⟨p1_0, p1_1, p1_2, p1_3, p1_4, s1, r1_0, r1_1, r1_2, r1_3, r1_4⟩ := qN32 g1
    simp only [List.cons.injEq, and_true] at s1
    obtain ⟨rfl, rfl, rfl, rfl, rfl⟩ := s1
    obtain ⟨p2_0, p2_0n, p2_0c, s2, r2_0⟩ := q27 g2
    simp only [List.cons.injEq, and_true] at s2
    subst s2
    exact ⟨p0_0, p0_1, p1_0, p1_1, p1_2, p1_3, p1_4, p2_0, p2_0n, p2_0c, rfl, r0_0, r0_1, r1_0, r1_1, r1_2, r1_3, r1_4, r2_0⟩
theorem qN34 {fuel : Nat} {cs : List Value} {x : DataW H × List MemPlace} (h : DataW.trod enc Try.prog w 0 (fun _ => true) true fuel 34 cs = some x) : Q33 w cs := by
  obtain ⟨xs, _, _, _, hl, hxs, hf⟩ := DataW.trod_struct Try.underlying34 h
  rw [show Try.prog.cellsOf 34 = 8 from by kernel_rfl] at hl
  match cs, hl with
  | [c0, c1, c2, c3, c4, c5, c6, c7], _ =>
    have e0 := hf 0 _ rfl
    have g0 : DataW.trod enc Try.prog w 0 (fun _ => true) true _ 25 [c0, c1] = xs[0]? := e0
    rw [List.getElem?_eq_getElem (by rw [hxs]; decide)] at g0
    have e1 := hf 1 _ rfl
    have g1 : DataW.trod enc Try.prog w 0 (fun _ => true) true _ 32 [c2, c3, c4, c5, c6] = xs[1]? := e1
    rw [List.getElem?_eq_getElem (by rw [hxs]; decide)] at g1
    have e2 := hf 2 _ rfl
    have g2 : DataW.trod enc Try.prog w 0 (fun _ => true) true _ 27 [c7] = xs[2]? := e2
    rw [List.getElem?_eq_getElem (by rw [hxs]; decide)] at g2
    obtain ⟨p0_0, p0_1, s0, r0_0, r0_1⟩ := qN25 g0
    simp only [List.cons.injEq, and_true] at s0
    obtain ⟨rfl, rfl⟩ := s0
    obtain ⟨p1_0, p1_1, p1_2, p1_3, p1_4, s1, r1_0, r1_1, r1_2, r1_3, r1_4⟩ := qN32 g1
    simp only [List.cons.injEq, and_true] at s1
    obtain ⟨rfl, rfl, rfl, rfl, rfl⟩ := s1
    obtain ⟨p2_0, p2_0n, p2_0c, s2, r2_0⟩ := q27 g2
    simp only [List.cons.injEq, and_true] at s2
    subst s2
    exact ⟨p0_0, p0_1, p1_0, p1_1, p1_2, p1_3, p1_4, p2_0, p2_0n, p2_0c, rfl, r0_0, r0_1, r1_0, r1_1, r1_2, r1_3, r1_4, r2_0⟩
theorem cells22 : Try.prog.cellsOf 22 = 1 := by kernel_rfl
def Q22 (w : World) (cs : List Value) : Prop := ∃ (n0 : Option Addr) (n0n : Nat) (n0c : Nat), cs = [.slice n0 n0n n0c] ∧ Vec w n0 n0n n0c 8 (Q33 w)
theorem q22 {fuel : Nat} {cs : List Value} {x : DataW H × List MemPlace} (h : DataW.trod enc Try.prog w 0 (fun _ => true) true fuel 22 cs = some x) : Q22 w cs := by
  have h' := h
  rcases Go.Deep.open_slice Try.underlying22 h' with ⟨rfl, _⟩ | ⟨a, len, cap, _, _, _, _, rfl, _⟩
  · exact ⟨none, 0, 0, rfl, vec_of (Q33 w) Try.underlying22 (by kernel_rfl) (by omega) (fun _ _ _ h => qN34 h) ⟨_, h⟩⟩
  · exact ⟨some a, len, cap, rfl, vec_of (Q33 w) Try.underlying22 (by kernel_rfl) (by omega) (fun _ _ _ h => qN34 h) ⟨_, h⟩⟩
end
end Go.Proofs.Ytkkcfielmpjgeaa
