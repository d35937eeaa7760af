/- The law RegsRuns, of any arguments. -/
import Derived.Test.YtdfompfboopkpaaQ
import Derived.Test.YtdfompfboopkpaaShapes
namespace Go.Proofs.Ytdfompfboopkpaa
open Go.RowKit
set_option linter.unusedVariables false

set_option maxRecDepth 100000 in
theorem walk_RegsRuns (a0 : Option Addr) (a0n a0c : Nat) (a1_0 : Int) (a1_1 : Int) (w : World) (w0 : Vec w a0 a0n a0c 4 (Q27)) (w1_0 : (Lit.int .i64 a1_0).wf = true) (w1_1 : (Lit.int .i64 a1_1).wf = true) :
    Calls Try.prog 5 #[.slice a0 a0n a0c, .agg #[.int .i64 a1_0, .int .i64 a1_1]] w fun e w' => e = .returned (.bool true) ∧ Below w.heap.size w w' :=
  runs_law a0 a0n a0c a1_0 a1_1 w w0
end Go.Proofs.Ytdfompfboopkpaa
