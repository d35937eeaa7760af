/- What the arguments' types read as. Printed by wip/tools/genrow.py. -/
import Derived.Test.YtllljpmcfjmciaaBase
namespace Go.Proofs.Ytllljpmcfjmciaa
open Go.RowKit Go.ChangeShapes Go.WideShapes
section
variable {H : Type} {enc : TypeId × Value → H} {w : World}
theorem cells5 : Try.prog.cellsOf 5 = 1 := by kernel_rfl
def Q5 (cs : List Value) : Prop := ∃ (n0 : Int), cs = [.int .u8 n0] ∧ (Lit.int .u8 n0).wf = true
theorem q5 {fuel : Nat} {cs : List Value} {x : DataW H × List MemPlace} (h : DataW.trod enc Try.prog w 0 (fun _ => true) true fuel 5 cs = some x) : Q5 cs := by
  obtain ⟨n0, h1, _, h2⟩ := DataW.trod_int Try.underlying5 h
  exact ⟨n0, h1, h2⟩
theorem cells22 : Try.prog.cellsOf 22 = 1 := by kernel_rfl
def Q22 (w : World) (cs : List Value) : Prop := ∃ (n0 : Option Addr) (n0n : Nat) (n0c : Nat), cs = [.slice n0 n0n n0c] ∧ Vec w n0 n0n n0c 1 (Q5)
theorem q22 {fuel : Nat} {cs : List Value} {x : DataW H × List MemPlace} (h : DataW.trod enc Try.prog w 0 (fun _ => true) true fuel 22 cs = some x) : Q22 w cs := by
  have h' := h
  rcases Go.Deep.open_slice Try.underlying22 h' with ⟨rfl, _⟩ | ⟨a, len, cap, _, _, _, _, rfl, _⟩
  · exact ⟨none, 0, 0, rfl, vec_of (Q5) Try.underlying22 (by kernel_rfl) (by omega) (fun _ _ _ h => q5 h) ⟨_, h⟩⟩
  · exact ⟨some a, len, cap, rfl, vec_of (Q5) Try.underlying22 (by kernel_rfl) (by omega) (fun _ _ _ h => q5 h) ⟨_, h⟩⟩
theorem cells3 : Try.prog.cellsOf 3 = 1 := by kernel_rfl
def Q3 (cs : List Value) : Prop := ∃ (n0 : Int), cs = [.int .i64 n0] ∧ (Lit.int .i64 n0).wf = true
theorem q3 {fuel : Nat} {cs : List Value} {x : DataW H × List MemPlace} (h : DataW.trod enc Try.prog w 0 (fun _ => true) true fuel 3 cs = some x) : Q3 cs := by
  obtain ⟨n0, h1, _, h2⟩ := DataW.trod_int Try.underlying3 h
  exact ⟨n0, h1, h2⟩
theorem qN34 {fuel : Nat} {cs : List Value} {x : DataW H × List MemPlace} (h : DataW.trod enc Try.prog w 0 (fun _ => true) true fuel 34 cs = some x) : Q3 cs := by
  obtain ⟨n0, h1, _, h2⟩ := DataW.trod_int Try.underlying34 h
  exact ⟨n0, h1, h2⟩
theorem qN29 {fuel : Nat} {cs : List Value} {x : DataW H × List MemPlace} (h : DataW.trod enc Try.prog w 0 (fun _ => true) true fuel 29 cs = some x) : Q3 cs := by
  obtain ⟨n0, h1, _, h2⟩ := DataW.trod_int Try.underlying29 h
  exact ⟨n0, h1, h2⟩
theorem cells23 : Try.prog.cellsOf 23 = 1 := by kernel_rfl
def Q23 (w : World) (cs : List Value) : Prop := ∃ (n0 : Option Addr) (n0n : Nat) (n0c : Nat), cs = [.slice n0 n0n n0c] ∧ Vec w n0 n0n n0c 1 (Q3)
theorem q23 {fuel : Nat} {cs : List Value} {x : DataW H × List MemPlace} (h : DataW.trod enc Try.prog w 0 (fun _ => true) true fuel 23 cs = some x) : Q23 w cs := by
  have h' := h
  rcases Go.Deep.open_slice Try.underlying23 h' with ⟨rfl, _⟩ | ⟨a, len, cap, _, _, _, _, rfl, _⟩
  · exact ⟨none, 0, 0, rfl, vec_of (Q3) Try.underlying23 (by kernel_rfl) (by omega) (fun _ _ _ h => q3 h) ⟨_, h⟩⟩
  · exact ⟨some a, len, cap, rfl, vec_of (Q3) Try.underlying23 (by kernel_rfl) (by omega) (fun _ _ _ h => q3 h) ⟨_, h⟩⟩
theorem cells30 : Try.prog.cellsOf 30 = 2 := by kernel_rfl
def Q30 (cs : List Value) : Prop := ∃ (n0 : Int) (n1 : Int), cs = [.int .i64 n0, .int .i64 n1] ∧ (Lit.int .i64 n0).wf = true ∧ (Lit.int .i64 n1).wf = true
theorem q30 {fuel : Nat} {cs : List Value} {x : DataW H × List MemPlace} (h : DataW.trod enc Try.prog w 0 (fun _ => true) true fuel 30 cs = some x) : Q30 cs := by
  obtain ⟨xs, _, _, _, hl, hxs, hf⟩ := DataW.trod_struct Try.underlying30 h
  rw [cells30] at hl
  match cs, hl with
  | [c0, c1], _ =>
    have e0 := hf 0 _ rfl
    have g0 : DataW.trod enc Try.prog w 0 (fun _ => true) true _ 29 [c0] = xs[0]? := e0
    rw [List.getElem?_eq_getElem (by rw [hxs]; decide)] at g0
    have e1 := hf 1 _ rfl
    have g1 : DataW.trod enc Try.prog w 0 (fun _ => true) true _ 3 [c1] = xs[1]? := e1
    rw [List.getElem?_eq_getElem (by rw [hxs]; decide)] at g1
    obtain ⟨p0_0, s0, r0_0⟩ := qN29 g0
    simp only [List.cons.injEq, and_true] at s0
    subst s0
    obtain ⟨p1_0, s1, r1_0⟩ := q3 g1
    simp only [List.cons.injEq, and_true] at s1
    subst s1
    exact ⟨p0_0, p1_0, rfl, r0_0, r1_0⟩
theorem qN31 {fuel : Nat} {cs : List Value} {x : DataW H × List MemPlace} (h : DataW.trod enc Try.prog w 0 (fun _ => true) true fuel 31 cs = some x) : Q30 cs := by
  obtain ⟨xs, _, _, _, hl, hxs, hf⟩ := DataW.trod_struct Try.underlying31 h
  rw [show Try.prog.cellsOf 31 = 2 from by kernel_rfl] at hl
  match cs, hl with
  | [c0, c1], _ =>
    have e0 := hf 0 _ rfl
    have g0 : DataW.trod enc Try.prog w 0 (fun _ => true) true _ 29 [c0] = xs[0]? := e0
    rw [List.getElem?_eq_getElem (by rw [hxs]; decide)] at g0
    have e1 := hf 1 _ rfl
    have g1 : DataW.trod enc Try.prog w 0 (fun _ => true) true _ 3 [c1] = xs[1]? := e1
    rw [List.getElem?_eq_getElem (by rw [hxs]; decide)] at g1
    obtain ⟨p0_0, s0, r0_0⟩ := qN29 g0
    simp only [List.cons.injEq, and_true] at s0
    subst s0
    obtain ⟨p1_0, s1, r1_0⟩ := q3 g1
    simp only [List.cons.injEq, and_true] at s1
    subst s1
    exact ⟨p0_0, p1_0, rfl, r0_0, r1_0⟩
theorem cells4 : Try.prog.cellsOf 4 = 1 := by kernel_rfl
def Q4 (cs : List Value) : Prop := ∃ (n0 : Bool), cs = [.bool n0]
theorem q4 {fuel : Nat} {cs : List Value} {x : DataW H × List MemPlace} (h : DataW.trod enc Try.prog w 0 (fun _ => true) true fuel 4 cs = some x) : Q4 cs := by
  obtain ⟨n0, h1, _⟩ := DataW.trod_bool Try.underlying4 h
  exact ⟨n0, h1⟩
theorem cells35 : Try.prog.cellsOf 35 = 7 := by kernel_rfl
def Q35 (cs : List Value) : Prop := ∃ (n0 : Int) (n1 : Int) (n2 : Int) (n3 : Int) (n4 : Int) (n5 : Bool) (n6 : Int), cs = [.int .i64 n0, .int .i64 n1, .int .i64 n2, .int .i64 n3, .int .i64 n4, .bool n5, .int .i64 n6] ∧ (Lit.int .i64 n0).wf = true ∧ (Lit.int .i64 n1).wf = true ∧ (Lit.int .i64 n2).wf = true ∧ (Lit.int .i64 n3).wf = true ∧ (Lit.int .i64 n4).wf = true ∧ (Lit.int .i64 n6).wf = true
theorem q35 {fuel : Nat} {cs : List Value} {x : DataW H × List MemPlace} (h : DataW.trod enc Try.prog w 0 (fun _ => true) true fuel 35 cs = some x) : Q35 cs := by
  obtain ⟨xs, _, _, _, hl, hxs, hf⟩ := DataW.trod_struct Try.underlying35 h
  rw [cells35] at hl
  match cs, hl with
  | [c0, c1, c2, c3, c4, c5, c6], _ =>
    have e0 := hf 0 _ rfl
    have g0 : DataW.trod enc Try.prog w 0 (fun _ => true) true _ 31 [c0, c1] = xs[0]? := e0
    rw [List.getElem?_eq_getElem (by rw [hxs]; decide)] at g0
    have e1 := hf 1 _ rfl
    have g1 : DataW.trod enc Try.prog w 0 (fun _ => true) true _ 3 [c2] = xs[1]? := e1
    rw [List.getElem?_eq_getElem (by rw [hxs]; decide)] at g1
    have e2 := hf 2 _ rfl
    have g2 : DataW.trod enc Try.prog w 0 (fun _ => true) true _ 31 [c3, c4] = xs[2]? := e2
    rw [List.getElem?_eq_getElem (by rw [hxs]; decide)] at g2
    have e3 := hf 3 _ rfl
    have g3 : DataW.trod enc Try.prog w 0 (fun _ => true) true _ 4 [c5] = xs[3]? := e3
    rw [List.getElem?_eq_getElem (by rw [hxs]; decide)] at g3
    have e4 := hf 4 _ rfl
    have g4 : DataW.trod enc Try.prog w 0 (fun _ => true) true _ 34 [c6] = xs[4]? := e4
    rw [List.getElem?_eq_getElem (by rw [hxs]; decide)] at g4
    obtain ⟨p0_0, p0_1, s0, r0_0, r0_1⟩ := qN31 g0
    simp only [List.cons.injEq, and_true] at s0
    obtain ⟨rfl, rfl⟩ := s0
    obtain ⟨p1_0, s1, r1_0⟩ := q3 g1
    simp only [List.cons.injEq, and_true] at s1
    subst s1
    obtain ⟨p2_0, p2_1, s2, r2_0, r2_1⟩ := qN31 g2
    simp only [List.cons.injEq, and_true] at s2
    obtain ⟨rfl, rfl⟩ := s2
    obtain ⟨p3_0, s3⟩ := q4 g3
    simp only [List.cons.injEq, and_true] at s3
    subst s3
    obtain ⟨p4_0, s4, r4_0⟩ := qN34 g4
    simp only [List.cons.injEq, and_true] at s4
    subst s4
    exact ⟨p0_0, p0_1, p1_0, p2_0, p2_1, p3_0, p4_0, rfl, r0_0, r0_1, r1_0, r2_0, r2_1, r4_0⟩
theorem qN36 {fuel : Nat} {cs : List Value} {x : DataW H × List MemPlace} (h : DataW.trod enc Try.prog w 0 (fun _ => true) true fuel 36 cs = some x) : Q35 cs := by
  obtain ⟨xs, _, _, _, hl, hxs, hf⟩ := DataW.trod_struct Try.underlying36 h
  rw [show Try.prog.cellsOf 36 = 7 from by kernel_rfl] at hl
  match cs, hl with
  | [c0, c1, c2, c3, c4, c5, c6], _ =>
    have e0 := hf 0 _ rfl
    have g0 : DataW.trod enc Try.prog w 0 (fun _ => true) true _ 31 [c0, c1] = xs[0]? := e0
    rw [List.getElem?_eq_getElem (by rw [hxs]; decide)] at g0
    have e1 := hf 1 _ rfl
    have g1 : DataW.trod enc Try.prog w 0 (fun _ => true) true _ 3 [c2] = xs[1]? := e1
    rw [List.getElem?_eq_getElem (by rw [hxs]; decide)] at g1
    have e2 := hf 2 _ rfl
    have g2 : DataW.trod enc Try.prog w 0 (fun _ => true) true _ 31 [c3, c4] = xs[2]? := e2
    rw [List.getElem?_eq_getElem (by rw [hxs]; decide)] at g2
    have e3 := hf 3 _ rfl
    have g3 : DataW.trod enc Try.prog w 0 (fun _ => true) true _ 4 [c5] = xs[3]? := e3
    rw [List.getElem?_eq_getElem (by rw [hxs]; decide)] at g3
    have e4 := hf 4 _ rfl
    have g4 : DataW.trod enc Try.prog w 0 (fun _ => true) true _ 34 [c6] = xs[4]? := e4
    rw [List.getElem?_eq_getElem (by rw [hxs]; decide)] at g4
    obtain ⟨p0_0, p0_1, s0, r0_0, r0_1⟩ := qN31 g0
    simp only [List.cons.injEq, and_true] at s0
    obtain ⟨rfl, rfl⟩ := s0
    obtain ⟨p1_0, s1, r1_0⟩ := q3 g1
    simp only [List.cons.injEq, and_true] at s1
    subst s1
    obtain ⟨p2_0, p2_1, s2, r2_0, r2_1⟩ := qN31 g2
    simp only [List.cons.injEq, and_true] at s2
    obtain ⟨rfl, rfl⟩ := s2
    obtain ⟨p3_0, s3⟩ := q4 g3
    simp only [List.cons.injEq, and_true] at s3
    subst s3
    obtain ⟨p4_0, s4, r4_0⟩ := qN34 g4
    simp only [List.cons.injEq, and_true] at s4
    subst s4
    exact ⟨p0_0, p0_1, p1_0, p2_0, p2_1, p3_0, p4_0, rfl, r0_0, r0_1, r1_0, r2_0, r2_1, r4_0⟩
theorem cells49 : Try.prog.cellsOf 49 = 8 := by kernel_rfl
def Q49 (cs : List Value) : Prop := ∃ (n0 : Int) (n1 : Int) (n2 : Int) (n3 : Int) (n4 : Int) (n5 : Int) (n6 : Bool) (n7 : Int), cs = [.int .i64 n0, .int .i64 n1, .int .i64 n2, .int .i64 n3, .int .i64 n4, .int .i64 n5, .bool n6, .int .i64 n7] ∧ (Lit.int .i64 n0).wf = true ∧ (Lit.int .i64 n1).wf = true ∧ (Lit.int .i64 n2).wf = true ∧ (Lit.int .i64 n3).wf = true ∧ (Lit.int .i64 n4).wf = true ∧ (Lit.int .i64 n5).wf = true ∧ (Lit.int .i64 n7).wf = true
theorem q49 {fuel : Nat} {cs : List Value} {x : DataW H × List MemPlace} (h : DataW.trod enc Try.prog w 0 (fun _ => true) true fuel 49 cs = some x) : Q49 cs := by
  obtain ⟨xs, _, _, _, hl, hxs, hf⟩ := DataW.trod_struct Try.underlying49 h
  rw [cells49] at hl
  match cs, hl with
  | [c0, c1, c2, c3, c4, c5, c6, c7], _ =>
    have e0 := hf 0 _ rfl
    have g0 : DataW.trod enc Try.prog w 0 (fun _ => true) true _ 3 [c0] = xs[0]? := e0
    rw [List.getElem?_eq_getElem (by rw [hxs]; decide)] at g0
    have e1 := hf 1 _ rfl
    have g1 : DataW.trod enc Try.prog w 0 (fun _ => true) true _ 36 [c1, c2, c3, c4, c5, c6, c7] = xs[1]? := e1
    rw [List.getElem?_eq_getElem (by rw [hxs]; decide)] at g1
    obtain ⟨p0_0, s0, r0_0⟩ := q3 g0
    simp only [List.cons.injEq, and_true] at s0
    subst s0
    obtain ⟨p1_0, p1_1, p1_2, p1_3, p1_4, p1_5, p1_6, s1, r1_0, r1_1, r1_2, r1_3, r1_4, r1_6⟩ := qN36 g1
    simp only [List.cons.injEq, and_true] at s1
    obtain ⟨rfl, rfl, rfl, rfl, rfl, rfl, rfl⟩ := s1
    exact ⟨p0_0, p1_0, p1_1, p1_2, p1_3, p1_4, p1_5, p1_6, rfl, r0_0, r1_0, r1_1, r1_2, r1_3, r1_4, r1_6⟩
theorem qN50 {fuel : Nat} {cs : List Value} {x : DataW H × List MemPlace} (h : DataW.trod enc Try.prog w 0 (fun _ => true) true fuel 50 cs = some x) : Q49 cs := by
  obtain ⟨xs, _, _, _, hl, hxs, hf⟩ := DataW.trod_struct Try.underlying50 h
  rw [show Try.prog.cellsOf 50 = 8 from by kernel_rfl] at hl
  match cs, hl with
  | [c0, c1, c2, c3, c4, c5, c6, c7], _ =>
    have e0 := hf 0 _ rfl
    have g0 : DataW.trod enc Try.prog w 0 (fun _ => true) true _ 3 [c0] = xs[0]? := e0
    rw [List.getElem?_eq_getElem (by rw [hxs]; decide)] at g0
    have e1 := hf 1 _ rfl
    have g1 : DataW.trod enc Try.prog w 0 (fun _ => true) true _ 36 [c1, c2, c3, c4, c5, c6, c7] = xs[1]? := e1
    rw [List.getElem?_eq_getElem (by rw [hxs]; decide)] at g1
    obtain ⟨p0_0, s0, r0_0⟩ := q3 g0
    simp only [List.cons.injEq, and_true] at s0
    subst s0
    obtain ⟨p1_0, p1_1, p1_2, p1_3, p1_4, p1_5, p1_6, s1, r1_0, r1_1, r1_2, r1_3, r1_4, r1_6⟩ := qN36 g1
    simp only [List.cons.injEq, and_true] at s1
    obtain ⟨rfl, rfl, rfl, rfl, rfl, rfl, rfl⟩ := s1
    exact ⟨p0_0, p1_0, p1_1, p1_2, p1_3, p1_4, p1_5, p1_6, rfl, r0_0, r1_0, r1_1, r1_2, r1_3, r1_4, r1_6⟩
theorem cells43 : Try.prog.cellsOf 43 = 1 := by kernel_rfl
def Q43 (w : World) (cs : List Value) : Prop := ∃ (n0 : Option Addr) (n0n : Nat) (n0c : Nat), cs = [.slice n0 n0n n0c] ∧ Vec w n0 n0n n0c 8 (Q49)
theorem q43 {fuel : Nat} {cs : List Value} {x : DataW H × List MemPlace} (h : DataW.trod enc Try.prog w 0 (fun _ => true) true fuel 43 cs = some x) : Q43 w cs := by
  have h' := h
  rcases Go.Deep.open_slice Try.underlying43 h' with ⟨rfl, _⟩ | ⟨a, len, cap, _, _, _, _, rfl, _⟩
  · exact ⟨none, 0, 0, rfl, vec_of (Q49) Try.underlying43 (by kernel_rfl) (by omega) (fun _ _ _ h => qN50 h) ⟨_, h⟩⟩
  · exact ⟨some a, len, cap, rfl, vec_of (Q49) Try.underlying43 (by kernel_rfl) (by omega) (fun _ _ _ h => qN50 h) ⟨_, h⟩⟩
end
end Go.Proofs.Ytllljpmcfjmciaa
