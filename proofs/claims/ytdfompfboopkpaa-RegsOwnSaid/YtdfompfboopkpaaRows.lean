/-
  No cell of these rows narrows 'for every input' (looked for: loops, veiled, ifaces, maps, wideKeys, modest, calm, conditions, laid).
  DERIVED. THE GIVEN ROWS OF THIS SEAT. 4 by the template 'for every input the law returns true; each argument reads behind the call as it read before'; 0 by the template 'total and deterministic' (their statements: YtdfompfboopkpaaTotals.lean).
  GIVEN WITH THE SEED: the statements are not yours to turn. If you find one false, say at which input.
  Laid BY PROGRAM, IN A SANDBOX (cutbox-rows.mjs): the forced cells as the released guide's own fill.sh prints them over the translation 062bacf174fa813e… (all of the seat's roots in one cut). By AI agents, Wed Nov 11 2026. No macro, syntax, notation, axiom, sorry.
-/
import Derived.Test.YtdfompfboopkpaaChecked
import GoSem.Claim
import GoSem.ClaimJoined
import GoSem.ClaimMapViews
import Derived.JoinedTies
import Derived.KernelRfl
namespace Go.Proofs.Ytdfompfboopkpaa
/- THE CELL 'sum', in the pinned program and in every row, IS THE sha256 OF THE DUMP (.gsa) THAT YtdfompfboopkpaaProg.lean LOADS. Nothing in Lean hashes anything: it is a label: what it is worth is what the hold of that sum in a sandbox is worth. -/
noncomputable def Try.pinned : Pinned := { name := "ytdfompfboopkpaa", sum := "062bacf174fa813ea2d43707e8e7762befb013cdab1dd4d4f87e5a3f43e0a10e", checked := Try.checked }
namespace Rows
def none {H : Type} : Left H := { results := [], args := [] }

/-- 'gantletlaw14.RegsDo': WHATEVER THE INPUT: true; the input reads as it did. -/
def regsDoSpec : ChangeSpec := { name := "regsDo", fn := fun _ => fun
  | [d1, d2, d3, d4] => { results := [.lit (.bool true)], args := [d1, d2, d3, d4] }
  | _ => none }
def regsDoRow : OpenClaim := { program := "ytdfompfboopkpaa", sum := "062bacf174fa813ea2d43707e8e7762befb013cdab1dd4d4f87e5a3f43e0a10e", func := "gantlet/gantletlaw14.RegsDo", spec := "regsDo", unfollowed := true, recurses := true, apart := false }
def RegsDoSaid : Prop := regsDoRow.holds Try.pinned (OpenSpec.ofChange regsDoSpec)

/-- ITS FALSE NEIGHBOUR: 'it returns false'. Refute it at one input. -/
def regsDoWrong : ChangeSpec := { name := "regsDo", fn := fun _ => fun
  | [d1, d2, d3, d4] => { results := [.lit (.bool false)], args := [d1, d2, d3, d4] }
  | _ => none }
def RegsDoWrongFalsely : Prop := regsDoRow.holds Try.pinned (OpenSpec.ofChange regsDoWrong)

/-- 'gantletlaw14.RegsOwn': WHATEVER THE INPUT: true; the input reads as it did. -/
def regsOwnSpec : ChangeSpec := { name := "regsOwn", fn := fun _ => fun
  | [d1, d2, d3, d4, d5] => { results := [.lit (.bool true)], args := [d1, d2, d3, d4, d5] }
  | _ => none }
def regsOwnRow : OpenClaim := { program := "ytdfompfboopkpaa", sum := "062bacf174fa813ea2d43707e8e7762befb013cdab1dd4d4f87e5a3f43e0a10e", func := "gantlet/gantletlaw14.RegsOwn", spec := "regsOwn", unfollowed := true, recurses := true, apart := false }
def RegsOwnSaid : Prop := regsOwnRow.holds Try.pinned (OpenSpec.ofChange regsOwnSpec)

/-- ITS FALSE NEIGHBOUR: 'it returns false'. Refute it at one input. -/
def regsOwnWrong : ChangeSpec := { name := "regsOwn", fn := fun _ => fun
  | [d1, d2, d3, d4, d5] => { results := [.lit (.bool false)], args := [d1, d2, d3, d4, d5] }
  | _ => none }
def RegsOwnWrongFalsely : Prop := regsOwnRow.holds Try.pinned (OpenSpec.ofChange regsOwnWrong)

/-- 'gantletlaw14.RegsRuns': WHATEVER THE INPUT: true; the input reads as it did. -/
def regsRunsSpec : ChangeSpec := { name := "regsRuns", fn := fun _ => fun
  | [d1, d2] => { results := [.lit (.bool true)], args := [d1, d2] }
  | _ => none }
def regsRunsRow : OpenClaim := { program := "ytdfompfboopkpaa", sum := "062bacf174fa813ea2d43707e8e7762befb013cdab1dd4d4f87e5a3f43e0a10e", func := "gantlet/gantletlaw14.RegsRuns", spec := "regsRuns", unfollowed := true, recurses := true, apart := false }
def RegsRunsSaid : Prop := regsRunsRow.holds Try.pinned (OpenSpec.ofChange regsRunsSpec)

/-- ITS FALSE NEIGHBOUR: 'it returns false'. Refute it at one input. -/
def regsRunsWrong : ChangeSpec := { name := "regsRuns", fn := fun _ => fun
  | [d1, d2] => { results := [.lit (.bool false)], args := [d1, d2] }
  | _ => none }
def RegsRunsWrongFalsely : Prop := regsRunsRow.holds Try.pinned (OpenSpec.ofChange regsRunsWrong)

/-- 'gantletlaw14.RegsTold': WHATEVER THE INPUT: true; the input reads as it did. -/
def regsToldSpec : ChangeSpec := { name := "regsTold", fn := fun _ => fun
  | [d1, d2, d3, d4] => { results := [.lit (.bool true)], args := [d1, d2, d3, d4] }
  | _ => none }
def regsToldRow : OpenClaim := { program := "ytdfompfboopkpaa", sum := "062bacf174fa813ea2d43707e8e7762befb013cdab1dd4d4f87e5a3f43e0a10e", func := "gantlet/gantletlaw14.RegsTold", spec := "regsTold", unfollowed := true, recurses := true, apart := false }
def RegsToldSaid : Prop := regsToldRow.holds Try.pinned (OpenSpec.ofChange regsToldSpec)

/-- ITS FALSE NEIGHBOUR: 'it returns false'. Refute it at one input. -/
def regsToldWrong : ChangeSpec := { name := "regsTold", fn := fun _ => fun
  | [d1, d2, d3, d4] => { results := [.lit (.bool false)], args := [d1, d2, d3, d4] }
  | _ => none }
def RegsToldWrongFalsely : Prop := regsToldRow.holds Try.pinned (OpenSpec.ofChange regsToldWrong)

/- THE SECOND FORM. 'bulk': how many values and letters a reading holds, each counted each time it is reached (what is shared counts as often as it is met; a slice's spare places count too). A statement '..UptoSaid' is the law's where the arguments, and the package variables that the reading takes, are together of bulk at most 1048576: NARROWER than '..Said'. Prove '..Said' where nothing that the law and all that it calls make is longer than what came in: it says more and counts as full. Else prove '..UptoSaid'. A law counts once. -/
mutual
def uptoBulk {H : Type} : DataW H → Nat
  | .lit (.string bytes) => bytes.length + 1
  | .lit _ => 1
  | .nil => 1
  | .ptr d => uptoBulk d + 1
  | .slice elems spare => uptoBulkAll elems + uptoBulkAll spare + 1
  | .agg parts => uptoBulkAll parts + 1
  | .iface _ d => uptoBulk d + 1
  | .map entries => uptoBulkEntries entries + 1
  | .held _ => 1
def uptoBulkAll {H : Type} : List (DataW H) → Nat
  | [] => 0
  | d :: r => uptoBulk d + uptoBulkAll r
def uptoBulkEntries {H : Type} : List (Lit × DataW H) → Nat
  | [] => 0
  | x :: r => uptoBulkEntry x + uptoBulkEntries r
def uptoBulkEntry {H : Type} : Lit × DataW H → Nat
  | (.string bytes, d) => bytes.length + uptoBulk d + 1
  | (_, d) => uptoBulk d + 1
 end
def uptoSmall : (H : Type) → List (DataW H) → Bool := fun _ ds => decide (uptoBulkAll ds ≤ 1048576)
def OpenSpec.upto (s : _root_.Go.ChangeSpec) : _root_.Go.OpenSpec := { _root_.Go.OpenSpec.ofChange s with cond := some uptoSmall }

/-- 'gantletlaw14.RegsDo', WHERE WHAT IT READS IS OF BULK AT MOST 1048576: true; the input reads as it did. -/
def regsDoUptoRow : OpenClaim := { program := "ytdfompfboopkpaa", sum := "062bacf174fa813ea2d43707e8e7762befb013cdab1dd4d4f87e5a3f43e0a10e", func := "gantlet/gantletlaw14.RegsDo", spec := "regsDo", unfollowed := true, recurses := true, apart := false, narrowed := true }
def RegsDoUptoSaid : Prop := regsDoUptoRow.holds Try.pinned (OpenSpec.upto regsDoSpec)

/-- 'gantletlaw14.RegsOwn', WHERE WHAT IT READS IS OF BULK AT MOST 1048576: true; the input reads as it did. -/
def regsOwnUptoRow : OpenClaim := { program := "ytdfompfboopkpaa", sum := "062bacf174fa813ea2d43707e8e7762befb013cdab1dd4d4f87e5a3f43e0a10e", func := "gantlet/gantletlaw14.RegsOwn", spec := "regsOwn", unfollowed := true, recurses := true, apart := false, narrowed := true }
def RegsOwnUptoSaid : Prop := regsOwnUptoRow.holds Try.pinned (OpenSpec.upto regsOwnSpec)

/-- 'gantletlaw14.RegsRuns', WHERE WHAT IT READS IS OF BULK AT MOST 1048576: true; the input reads as it did. -/
def regsRunsUptoRow : OpenClaim := { program := "ytdfompfboopkpaa", sum := "062bacf174fa813ea2d43707e8e7762befb013cdab1dd4d4f87e5a3f43e0a10e", func := "gantlet/gantletlaw14.RegsRuns", spec := "regsRuns", unfollowed := true, recurses := true, apart := false, narrowed := true }
def RegsRunsUptoSaid : Prop := regsRunsUptoRow.holds Try.pinned (OpenSpec.upto regsRunsSpec)

/-- 'gantletlaw14.RegsTold', WHERE WHAT IT READS IS OF BULK AT MOST 1048576: true; the input reads as it did. -/
def regsToldUptoRow : OpenClaim := { program := "ytdfompfboopkpaa", sum := "062bacf174fa813ea2d43707e8e7762befb013cdab1dd4d4f87e5a3f43e0a10e", func := "gantlet/gantletlaw14.RegsTold", spec := "regsTold", unfollowed := true, recurses := true, apart := false, narrowed := true }
def RegsToldUptoSaid : Prop := regsToldUptoRow.holds Try.pinned (OpenSpec.upto regsToldSpec)

end Rows
end Go.Proofs.Ytdfompfboopkpaa
