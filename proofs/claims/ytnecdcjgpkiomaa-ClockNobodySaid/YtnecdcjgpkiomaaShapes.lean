/- What the arguments' types read as. Printed by wip/tools/genrow.py. -/
import Derived.Test.YtnecdcjgpkiomaaBase
namespace Go.Proofs.Ytnecdcjgpkiomaa
open Go.RowKit Go.ChangeShapes Go.WideShapes
section
variable {H : Type} {enc : TypeId × Value → H} {w : World}
theorem cells3 : Try.prog.cellsOf 3 = 1 := by kernel_rfl
def Q3 (cs : List Value) : Prop := ∃ (n0 : Int), cs = [.int .i64 n0] ∧ (Lit.int .i64 n0).wf = true
theorem q3 {fuel : Nat} {cs : List Value} {x : DataW H × List MemPlace} (h : DataW.trod enc Try.prog w 0 (fun _ => true) true fuel 3 cs = some x) : Q3 cs := by
  obtain ⟨n0, h1, _, h2⟩ := DataW.trod_int Try.underlying3 h
  exact ⟨n0, h1, h2⟩
theorem cells4 : Try.prog.cellsOf 4 = 1 := by kernel_rfl
def Q4 (cs : List Value) : Prop := ∃ (n0 : Bool), cs = [.bool n0]
theorem q4 {fuel : Nat} {cs : List Value} {x : DataW H × List MemPlace} (h : DataW.trod enc Try.prog w 0 (fun _ => true) true fuel 4 cs = some x) : Q4 cs := by
  obtain ⟨n0, h1, _⟩ := DataW.trod_bool Try.underlying4 h
  exact ⟨n0, h1⟩
theorem cells5 : Try.prog.cellsOf 5 = 1 := by kernel_rfl
def Q5 (cs : List Value) : Prop := ∃ (n0 : Int), cs = [.int .u8 n0] ∧ (Lit.int .u8 n0).wf = true
theorem q5 {fuel : Nat} {cs : List Value} {x : DataW H × List MemPlace} (h : DataW.trod enc Try.prog w 0 (fun _ => true) true fuel 5 cs = some x) : Q5 cs := by
  obtain ⟨n0, h1, _, h2⟩ := DataW.trod_int Try.underlying5 h
  exact ⟨n0, h1, h2⟩
theorem cells29 : Try.prog.cellsOf 29 = 1 := by kernel_rfl
def Q29 (w : World) (cs : List Value) : Prop := ∃ (n0 : Option Addr) (n0n : Nat) (n0c : Nat), cs = [.slice n0 n0n n0c] ∧ Vec w n0 n0n n0c 1 (Q4)
theorem q29 {fuel : Nat} {cs : List Value} {x : DataW H × List MemPlace} (h : DataW.trod enc Try.prog w 0 (fun _ => true) true fuel 29 cs = some x) : Q29 w cs := by
  have h' := h
  rcases Go.Deep.open_slice Try.underlying29 h' with ⟨rfl, _⟩ | ⟨a, len, cap, _, _, _, _, rfl, _⟩
  · exact ⟨none, 0, 0, rfl, vec_of (Q4) Try.underlying29 cells4 (by omega) (fun _ _ _ h => q4 h) ⟨_, h⟩⟩
  · exact ⟨some a, len, cap, rfl, vec_of (Q4) Try.underlying29 cells4 (by omega) (fun _ _ _ h => q4 h) ⟨_, h⟩⟩
theorem cells31 : Try.prog.cellsOf 31 = 1 := by kernel_rfl
def Q31 (w : World) (cs : List Value) : Prop := ∃ (n0 : Option Addr) (n0n : Nat) (n0c : Nat), cs = [.slice n0 n0n n0c] ∧ Vec w n0 n0n n0c 1 (Q5)
theorem q31 {fuel : Nat} {cs : List Value} {x : DataW H × List MemPlace} (h : DataW.trod enc Try.prog w 0 (fun _ => true) true fuel 31 cs = some x) : Q31 w cs := by
  have h' := h
  rcases Go.Deep.open_slice Try.underlying31 h' with ⟨rfl, _⟩ | ⟨a, len, cap, _, _, _, _, rfl, _⟩
  · exact ⟨none, 0, 0, rfl, vec_of (Q5) Try.underlying31 cells5 (by omega) (fun _ _ _ h => q5 h) ⟨_, h⟩⟩
  · exact ⟨some a, len, cap, rfl, vec_of (Q5) Try.underlying31 cells5 (by omega) (fun _ _ _ h => q5 h) ⟨_, h⟩⟩
end
end Go.Proofs.Ytnecdcjgpkiomaa
