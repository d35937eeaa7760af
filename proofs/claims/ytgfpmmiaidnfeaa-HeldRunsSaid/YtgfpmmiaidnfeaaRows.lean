/-
  No cell of these rows narrows 'for every input' (looked for: loops, veiled, ifaces, maps, wideKeys, modest, calm, conditions, laid).
  DERIVED. THE GIVEN ROWS OF THIS SEAT. 3 by the template 'for every input the law returns true; each argument reads behind the call as it read before'; 0 by the template 'total and deterministic' (their statements: YtgfpmmiaidnfeaaTotals.lean).
  GIVEN WITH THE SEED: the statements are not yours to turn. If you find one false, say at which input.
  Laid BY PROGRAM, IN A SANDBOX (cutbox-rows.mjs): the forced cells as the released guide's own fill.sh prints them over the translation fe331cedc930108d… (all of the seat's roots in one cut). By AI agents, Wed Nov 11 2026. No macro, syntax, notation, axiom, sorry.
-/
import Derived.Test.YtgfpmmiaidnfeaaChecked
import GoSem.Claim
import GoSem.ClaimJoined
import GoSem.ClaimMapViews
import Derived.JoinedTies
import Derived.KernelRfl
namespace Go.Proofs.Ytgfpmmiaidnfeaa
/- THE CELL 'sum', in the pinned program and in every row, IS THE sha256 OF THE DUMP (.gsa) THAT YtgfpmmiaidnfeaaProg.lean LOADS. Nothing in Lean hashes anything: it is a label: what it is worth is what the hold of that sum in a sandbox is worth. -/
noncomputable def Try.pinned : Pinned := { name := "ytgfpmmiaidnfeaa", sum := "fe331cedc930108d4ac743cc515ee0d3715f7c1af1604fcbdbae0818a0d6f5ae", checked := Try.checked }
namespace Rows
def none {H : Type} : Left H := { results := [], args := [] }

/-- 'gantletlaw08.HeldBehind': WHATEVER THE INPUT: true; the input reads as it did. -/
def heldBehindSpec : ChangeSpec := { name := "heldBehind", fn := fun _ => fun
  | [d1, d2] => { results := [.lit (.bool true)], args := [d1, d2] }
  | _ => none }
def heldBehindRow : OpenClaim := { program := "ytgfpmmiaidnfeaa", sum := "fe331cedc930108d4ac743cc515ee0d3715f7c1af1604fcbdbae0818a0d6f5ae", func := "gantlet/gantletlaw08.HeldBehind", spec := "heldBehind", apart := false }
def HeldBehindSaid : Prop := heldBehindRow.holds Try.pinned (OpenSpec.ofChange heldBehindSpec)

/-- ITS FALSE NEIGHBOUR: 'it returns false'. Refute it at one input. -/
def heldBehindWrong : ChangeSpec := { name := "heldBehind", fn := fun _ => fun
  | [d1, d2] => { results := [.lit (.bool false)], args := [d1, d2] }
  | _ => none }
def HeldBehindWrongFalsely : Prop := heldBehindRow.holds Try.pinned (OpenSpec.ofChange heldBehindWrong)

/-- 'gantletlaw08.HeldRuns': WHATEVER THE INPUT: true; the input reads as it did. -/
def heldRunsSpec : ChangeSpec := { name := "heldRuns", fn := fun _ => fun
  | [d] => { results := [.lit (.bool true)], args := [d] }
  | _ => none }
def heldRunsRow : OpenClaim := { program := "ytgfpmmiaidnfeaa", sum := "fe331cedc930108d4ac743cc515ee0d3715f7c1af1604fcbdbae0818a0d6f5ae", func := "gantlet/gantletlaw08.HeldRuns", spec := "heldRuns", apart := false }
def HeldRunsSaid : Prop := heldRunsRow.holds Try.pinned (OpenSpec.ofChange heldRunsSpec)

/-- ITS FALSE NEIGHBOUR: 'it returns false'. Refute it at one input. -/
def heldRunsWrong : ChangeSpec := { name := "heldRuns", fn := fun _ => fun
  | [d] => { results := [.lit (.bool false)], args := [d] }
  | _ => none }
def HeldRunsWrongFalsely : Prop := heldRunsRow.holds Try.pinned (OpenSpec.ofChange heldRunsWrong)

/-- 'gantletlaw08.HeldOwn': WHATEVER THE INPUT: true; the input reads as it did. -/
def heldOwnSpec : ChangeSpec := { name := "heldOwn", fn := fun _ => fun
  | [d] => { results := [.lit (.bool true)], args := [d] }
  | _ => none }
def heldOwnRow : OpenClaim := { program := "ytgfpmmiaidnfeaa", sum := "fe331cedc930108d4ac743cc515ee0d3715f7c1af1604fcbdbae0818a0d6f5ae", func := "gantlet/gantletlaw08.HeldOwn", spec := "heldOwn", apart := false }
def HeldOwnSaid : Prop := heldOwnRow.holds Try.pinned (OpenSpec.ofChange heldOwnSpec)

/-- ITS FALSE NEIGHBOUR: 'it returns false'. Refute it at one input. -/
def heldOwnWrong : ChangeSpec := { name := "heldOwn", fn := fun _ => fun
  | [d] => { results := [.lit (.bool false)], args := [d] }
  | _ => none }
def HeldOwnWrongFalsely : Prop := heldOwnRow.holds Try.pinned (OpenSpec.ofChange heldOwnWrong)

/- THE SECOND FORM. 'bulk': how many values and letters a reading holds, each counted each time it is reached (what is shared counts as often as it is met; a slice's spare places count too). A statement '..UptoSaid' is the law's where the arguments, and the package variables that the reading takes, are together of bulk at most 1048576: NARROWER than '..Said'. Prove '..Said' where nothing that the law and all that it calls make is longer than what came in: it says more and counts as full. Else prove '..UptoSaid'. A law counts once. -/
mutual
def uptoBulk {H : Type} : DataW H → Nat
  | .lit (.string bytes) => bytes.length + 1
  | .lit _ => 1
  | .nil => 1
  | .ptr d => uptoBulk d + 1
  | .slice elems spare => uptoBulkAll elems + uptoBulkAll spare + 1
  | .agg parts => uptoBulkAll parts + 1
  | .iface _ d => uptoBulk d + 1
  | .map entries => uptoBulkEntries entries + 1
  | .held _ => 1
def uptoBulkAll {H : Type} : List (DataW H) → Nat
  | [] => 0
  | d :: r => uptoBulk d + uptoBulkAll r
def uptoBulkEntries {H : Type} : List (Lit × DataW H) → Nat
  | [] => 0
  | x :: r => uptoBulkEntry x + uptoBulkEntries r
def uptoBulkEntry {H : Type} : Lit × DataW H → Nat
  | (.string bytes, d) => bytes.length + uptoBulk d + 1
  | (_, d) => uptoBulk d + 1
 end
def uptoSmall : (H : Type) → List (DataW H) → Bool := fun _ ds => decide (uptoBulkAll ds ≤ 1048576)
def OpenSpec.upto (s : _root_.Go.ChangeSpec) : _root_.Go.OpenSpec := { _root_.Go.OpenSpec.ofChange s with cond := some uptoSmall }

/-- 'gantletlaw08.HeldBehind', WHERE WHAT IT READS IS OF BULK AT MOST 1048576: true; the input reads as it did. -/
def heldBehindUptoRow : OpenClaim := { program := "ytgfpmmiaidnfeaa", sum := "fe331cedc930108d4ac743cc515ee0d3715f7c1af1604fcbdbae0818a0d6f5ae", func := "gantlet/gantletlaw08.HeldBehind", spec := "heldBehind", apart := false, narrowed := true }
def HeldBehindUptoSaid : Prop := heldBehindUptoRow.holds Try.pinned (OpenSpec.upto heldBehindSpec)

/-- 'gantletlaw08.HeldRuns', WHERE WHAT IT READS IS OF BULK AT MOST 1048576: true; the input reads as it did. -/
def heldRunsUptoRow : OpenClaim := { program := "ytgfpmmiaidnfeaa", sum := "fe331cedc930108d4ac743cc515ee0d3715f7c1af1604fcbdbae0818a0d6f5ae", func := "gantlet/gantletlaw08.HeldRuns", spec := "heldRuns", apart := false, narrowed := true }
def HeldRunsUptoSaid : Prop := heldRunsUptoRow.holds Try.pinned (OpenSpec.upto heldRunsSpec)

/-- 'gantletlaw08.HeldOwn', WHERE WHAT IT READS IS OF BULK AT MOST 1048576: true; the input reads as it did. -/
def heldOwnUptoRow : OpenClaim := { program := "ytgfpmmiaidnfeaa", sum := "fe331cedc930108d4ac743cc515ee0d3715f7c1af1604fcbdbae0818a0d6f5ae", func := "gantlet/gantletlaw08.HeldOwn", spec := "heldOwn", apart := false, narrowed := true }
def HeldOwnUptoSaid : Prop := heldOwnUptoRow.holds Try.pinned (OpenSpec.upto heldOwnSpec)

end Rows
end Go.Proofs.Ytgfpmmiaidnfeaa
