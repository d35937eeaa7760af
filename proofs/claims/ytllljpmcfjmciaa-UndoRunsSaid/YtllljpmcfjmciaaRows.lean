/-
  No cell of these rows narrows 'for every input' (looked for: loops, veiled, ifaces, maps, wideKeys, modest, calm, conditions, laid).
  DERIVED. THE GIVEN ROWS OF THIS SEAT. 3 by the template 'for every input the law returns true; each argument reads behind the call as it read before'; 0 by the template 'total and deterministic' (their statements: YtllljpmcfjmciaaTotals.lean).
  GIVEN WITH THE SEED: the statements are not yours to turn. If you find one false, say at which input.
  Laid BY PROGRAM, IN A SANDBOX (cutbox-rows.mjs): the forced cells as the released guide's own fill.sh prints them over the translation 5598e3068f91295e… (all of the seat's roots in one cut). By AI agents, Wed Nov 11 2026. No macro, syntax, notation, axiom, sorry.
-/
import Derived.Test.YtllljpmcfjmciaaChecked
import GoSem.Claim
import GoSem.ClaimJoined
import GoSem.ClaimMapViews
import Derived.JoinedTies
import Derived.KernelRfl
namespace Go.Proofs.Ytllljpmcfjmciaa
/- THE CELL 'sum', in the pinned program and in every row, IS THE sha256 OF THE DUMP (.gsa) THAT YtllljpmcfjmciaaProg.lean LOADS. Nothing in Lean hashes anything: it is a label: what it is worth is what the hold of that sum in a sandbox is worth. -/
noncomputable def Try.pinned : Pinned := { name := "ytllljpmcfjmciaa", sum := "5598e3068f91295e3fc25256f928bfb4f1022823f95e634b063b198cb9a49e84", checked := Try.checked }
namespace Rows
def none {H : Type} : Left H := { results := [], args := [] }

/-- 'gantletlaw07.UndoBack': WHATEVER THE INPUT: true; the input reads as it did. -/
def undoBackSpec : ChangeSpec := { name := "undoBack", fn := fun _ => fun
  | [d1, d2] => { results := [.lit (.bool true)], args := [d1, d2] }
  | _ => none }
def undoBackRow : OpenClaim := { program := "ytllljpmcfjmciaa", sum := "5598e3068f91295e3fc25256f928bfb4f1022823f95e634b063b198cb9a49e84", func := "gantlet/gantletlaw07.UndoBack", spec := "undoBack", unfollowed := true, recurses := true, apart := false }
def UndoBackSaid : Prop := undoBackRow.holds Try.pinned (OpenSpec.ofChange undoBackSpec)

/-- ITS FALSE NEIGHBOUR: 'it returns false'. Refute it at one input. -/
def undoBackWrong : ChangeSpec := { name := "undoBack", fn := fun _ => fun
  | [d1, d2] => { results := [.lit (.bool false)], args := [d1, d2] }
  | _ => none }
def UndoBackWrongFalsely : Prop := undoBackRow.holds Try.pinned (OpenSpec.ofChange undoBackWrong)

/-- 'gantletlaw07.UndoRuns': WHATEVER THE INPUT: true; the input reads as it did. -/
def undoRunsSpec : ChangeSpec := { name := "undoRuns", fn := fun _ => fun
  | [d1, d2] => { results := [.lit (.bool true)], args := [d1, d2] }
  | _ => none }
def undoRunsRow : OpenClaim := { program := "ytllljpmcfjmciaa", sum := "5598e3068f91295e3fc25256f928bfb4f1022823f95e634b063b198cb9a49e84", func := "gantlet/gantletlaw07.UndoRuns", spec := "undoRuns", unfollowed := true, recurses := true, apart := false }
def UndoRunsSaid : Prop := undoRunsRow.holds Try.pinned (OpenSpec.ofChange undoRunsSpec)

/-- ITS FALSE NEIGHBOUR: 'it returns false'. Refute it at one input. -/
def undoRunsWrong : ChangeSpec := { name := "undoRuns", fn := fun _ => fun
  | [d1, d2] => { results := [.lit (.bool false)], args := [d1, d2] }
  | _ => none }
def UndoRunsWrongFalsely : Prop := undoRunsRow.holds Try.pinned (OpenSpec.ofChange undoRunsWrong)

/-- 'gantletlaw07.UndoNobody': WHATEVER THE INPUT: true; the input reads as it did. -/
def undoNobodySpec : ChangeSpec := { name := "undoNobody", fn := fun _ => fun
  | [d] => { results := [.lit (.bool true)], args := [d] }
  | _ => none }
def undoNobodyRow : OpenClaim := { program := "ytllljpmcfjmciaa", sum := "5598e3068f91295e3fc25256f928bfb4f1022823f95e634b063b198cb9a49e84", func := "gantlet/gantletlaw07.UndoNobody", spec := "undoNobody", unfollowed := true, recurses := true, apart := false }
def UndoNobodySaid : Prop := undoNobodyRow.holds Try.pinned (OpenSpec.ofChange undoNobodySpec)

/-- ITS FALSE NEIGHBOUR: 'it returns false'. Refute it at one input. -/
def undoNobodyWrong : ChangeSpec := { name := "undoNobody", fn := fun _ => fun
  | [d] => { results := [.lit (.bool false)], args := [d] }
  | _ => none }
def UndoNobodyWrongFalsely : Prop := undoNobodyRow.holds Try.pinned (OpenSpec.ofChange undoNobodyWrong)

/- THE SECOND FORM. 'bulk': how many values and letters a reading holds, each counted each time it is reached (what is shared counts as often as it is met; a slice's spare places count too). A statement '..UptoSaid' is the law's where the arguments, and the package variables that the reading takes, are together of bulk at most 1048576: NARROWER than '..Said'. Prove '..Said' where nothing that the law and all that it calls make is longer than what came in: it says more and counts as full. Else prove '..UptoSaid'. A law counts once. -/
mutual
def uptoBulk {H : Type} : DataW H → Nat
  | .lit (.string bytes) => bytes.length + 1
  | .lit _ => 1
  | .nil => 1
  | .ptr d => uptoBulk d + 1
  | .slice elems spare => uptoBulkAll elems + uptoBulkAll spare + 1
  | .agg parts => uptoBulkAll parts + 1
  | .iface _ d => uptoBulk d + 1
  | .map entries => uptoBulkEntries entries + 1
  | .held _ => 1
def uptoBulkAll {H : Type} : List (DataW H) → Nat
  | [] => 0
  | d :: r => uptoBulk d + uptoBulkAll r
def uptoBulkEntries {H : Type} : List (Lit × DataW H) → Nat
  | [] => 0
  | x :: r => uptoBulkEntry x + uptoBulkEntries r
def uptoBulkEntry {H : Type} : Lit × DataW H → Nat
  | (.string bytes, d) => bytes.length + uptoBulk d + 1
  | (_, d) => uptoBulk d + 1
 end
def uptoSmall : (H : Type) → List (DataW H) → Bool := fun _ ds => decide (uptoBulkAll ds ≤ 1048576)
def OpenSpec.upto (s : _root_.Go.ChangeSpec) : _root_.Go.OpenSpec := { _root_.Go.OpenSpec.ofChange s with cond := some uptoSmall }

/-- 'gantletlaw07.UndoBack', WHERE WHAT IT READS IS OF BULK AT MOST 1048576: true; the input reads as it did. -/
def undoBackUptoRow : OpenClaim := { program := "ytllljpmcfjmciaa", sum := "5598e3068f91295e3fc25256f928bfb4f1022823f95e634b063b198cb9a49e84", func := "gantlet/gantletlaw07.UndoBack", spec := "undoBack", unfollowed := true, recurses := true, apart := false, narrowed := true }
def UndoBackUptoSaid : Prop := undoBackUptoRow.holds Try.pinned (OpenSpec.upto undoBackSpec)

/-- 'gantletlaw07.UndoRuns', WHERE WHAT IT READS IS OF BULK AT MOST 1048576: true; the input reads as it did. -/
def undoRunsUptoRow : OpenClaim := { program := "ytllljpmcfjmciaa", sum := "5598e3068f91295e3fc25256f928bfb4f1022823f95e634b063b198cb9a49e84", func := "gantlet/gantletlaw07.UndoRuns", spec := "undoRuns", unfollowed := true, recurses := true, apart := false, narrowed := true }
def UndoRunsUptoSaid : Prop := undoRunsUptoRow.holds Try.pinned (OpenSpec.upto undoRunsSpec)

/-- 'gantletlaw07.UndoNobody', WHERE WHAT IT READS IS OF BULK AT MOST 1048576: true; the input reads as it did. -/
def undoNobodyUptoRow : OpenClaim := { program := "ytllljpmcfjmciaa", sum := "5598e3068f91295e3fc25256f928bfb4f1022823f95e634b063b198cb9a49e84", func := "gantlet/gantletlaw07.UndoNobody", spec := "undoNobody", unfollowed := true, recurses := true, apart := false, narrowed := true }
def UndoNobodyUptoSaid : Prop := undoNobodyUptoRow.holds Try.pinned (OpenSpec.upto undoNobodySpec)

end Rows
end Go.Proofs.Ytllljpmcfjmciaa
