/-
  No cell of these rows narrows 'for every input' (looked for: loops, veiled, ifaces, maps, wideKeys, modest, calm, conditions, laid).
  DERIVED. THE GIVEN ROWS OF THIS SEAT. 3 by the template 'for every input the law returns true; each argument reads behind the call as it read before'; 0 by the template 'total and deterministic' (their statements: YtaggoepiandblaaTotals.lean).
  GIVEN WITH THE SEED: the statements are not yours to turn. If you find one false, say at which input.
  Laid BY PROGRAM, IN A SANDBOX (cutbox-rows.mjs): the forced cells as the released guide's own fill.sh prints them over the translation 9dfad9ab7bf8a2c6… (all of the seat's roots in one cut). By AI agents, Wed Nov 11 2026. No macro, syntax, notation, axiom, sorry.
-/
import Derived.Test.YtaggoepiandblaaChecked
import GoSem.Claim
import GoSem.ClaimJoined
import GoSem.ClaimMapViews
import Derived.JoinedTies
import Derived.KernelRfl
namespace Go.Proofs.Ytaggoepiandblaa
/- THE CELL 'sum', in the pinned program and in every row, IS THE sha256 OF THE DUMP (.gsa) THAT YtaggoepiandblaaProg.lean LOADS. Nothing in Lean hashes anything: it is a label: what it is worth is what the hold of that sum in a sandbox is worth. -/
noncomputable def Try.pinned : Pinned := { name := "ytaggoepiandblaa", sum := "9dfad9ab7bf8a2c64c54506a9b18f341d38406d123e19e1352af7e35e1f5fcd9", checked := Try.checked }
namespace Rows
def none {H : Type} : Left H := { results := [], args := [] }

/-- 'gantletlaw05.EpochQuiet': WHATEVER THE INPUT: true; the input reads as it did. -/
def epochQuietSpec : ChangeSpec := { name := "epochQuiet", fn := fun _ => fun
  | [d1, d2, d3, d4] => { results := [.lit (.bool true)], args := [d1, d2, d3, d4] }
  | _ => none }
def epochQuietRow : OpenClaim := { program := "ytaggoepiandblaa", sum := "9dfad9ab7bf8a2c64c54506a9b18f341d38406d123e19e1352af7e35e1f5fcd9", func := "gantlet/gantletlaw05.EpochQuiet", spec := "epochQuiet", inPlace := ["sync/atomic.LoadInt64", "sync/atomic.AddInt64"], apart := false }
def EpochQuietSaid : Prop := epochQuietRow.holds Try.pinned (OpenSpec.ofChange epochQuietSpec)

/-- ITS FALSE NEIGHBOUR: 'it returns false'. Refute it at one input. -/
def epochQuietWrong : ChangeSpec := { name := "epochQuiet", fn := fun _ => fun
  | [d1, d2, d3, d4] => { results := [.lit (.bool false)], args := [d1, d2, d3, d4] }
  | _ => none }
def EpochQuietWrongFalsely : Prop := epochQuietRow.holds Try.pinned (OpenSpec.ofChange epochQuietWrong)

/-- 'gantletlaw05.EpochRuns': WHATEVER THE INPUT: true; the input reads as it did. -/
def epochRunsSpec : ChangeSpec := { name := "epochRuns", fn := fun _ => fun
  | [d1, d2] => { results := [.lit (.bool true)], args := [d1, d2] }
  | _ => none }
def epochRunsRow : OpenClaim := { program := "ytaggoepiandblaa", sum := "9dfad9ab7bf8a2c64c54506a9b18f341d38406d123e19e1352af7e35e1f5fcd9", func := "gantlet/gantletlaw05.EpochRuns", spec := "epochRuns", inPlace := ["sync/atomic.LoadInt64", "sync/atomic.AddInt64", "sync/atomic.StoreInt64"], apart := false }
def EpochRunsSaid : Prop := epochRunsRow.holds Try.pinned (OpenSpec.ofChange epochRunsSpec)

/-- ITS FALSE NEIGHBOUR: 'it returns false'. Refute it at one input. -/
def epochRunsWrong : ChangeSpec := { name := "epochRuns", fn := fun _ => fun
  | [d1, d2] => { results := [.lit (.bool false)], args := [d1, d2] }
  | _ => none }
def EpochRunsWrongFalsely : Prop := epochRunsRow.holds Try.pinned (OpenSpec.ofChange epochRunsWrong)

/-- 'gantletlaw05.EpochNobody': WHATEVER THE INPUT: true; the input reads as it did. -/
def epochNobodySpec : ChangeSpec := { name := "epochNobody", fn := fun _ => fun
  | [d] => { results := [.lit (.bool true)], args := [d] }
  | _ => none }
def epochNobodyRow : OpenClaim := { program := "ytaggoepiandblaa", sum := "9dfad9ab7bf8a2c64c54506a9b18f341d38406d123e19e1352af7e35e1f5fcd9", func := "gantlet/gantletlaw05.EpochNobody", spec := "epochNobody", inPlace := ["sync/atomic.LoadInt64", "sync/atomic.AddInt64", "sync/atomic.StoreInt64"], apart := false }
def EpochNobodySaid : Prop := epochNobodyRow.holds Try.pinned (OpenSpec.ofChange epochNobodySpec)

/-- ITS FALSE NEIGHBOUR: 'it returns false'. Refute it at one input. -/
def epochNobodyWrong : ChangeSpec := { name := "epochNobody", fn := fun _ => fun
  | [d] => { results := [.lit (.bool false)], args := [d] }
  | _ => none }
def EpochNobodyWrongFalsely : Prop := epochNobodyRow.holds Try.pinned (OpenSpec.ofChange epochNobodyWrong)

/- THE SECOND FORM. 'bulk': how many values and letters a reading holds, each counted each time it is reached (what is shared counts as often as it is met; a slice's spare places count too). A statement '..UptoSaid' is the law's where the arguments, and the package variables that the reading takes, are together of bulk at most 1048576: NARROWER than '..Said'. Prove '..Said' where nothing that the law and all that it calls make is longer than what came in: it says more and counts as full. Else prove '..UptoSaid'. A law counts once. -/
mutual
def uptoBulk {H : Type} : DataW H → Nat
  | .lit (.string bytes) => bytes.length + 1
  | .lit _ => 1
  | .nil => 1
  | .ptr d => uptoBulk d + 1
  | .slice elems spare => uptoBulkAll elems + uptoBulkAll spare + 1
  | .agg parts => uptoBulkAll parts + 1
  | .iface _ d => uptoBulk d + 1
  | .map entries => uptoBulkEntries entries + 1
  | .held _ => 1
def uptoBulkAll {H : Type} : List (DataW H) → Nat
  | [] => 0
  | d :: r => uptoBulk d + uptoBulkAll r
def uptoBulkEntries {H : Type} : List (Lit × DataW H) → Nat
  | [] => 0
  | x :: r => uptoBulkEntry x + uptoBulkEntries r
def uptoBulkEntry {H : Type} : Lit × DataW H → Nat
  | (.string bytes, d) => bytes.length + uptoBulk d + 1
  | (_, d) => uptoBulk d + 1
 end
def uptoSmall : (H : Type) → List (DataW H) → Bool := fun _ ds => decide (uptoBulkAll ds ≤ 1048576)
def OpenSpec.upto (s : _root_.Go.ChangeSpec) : _root_.Go.OpenSpec := { _root_.Go.OpenSpec.ofChange s with cond := some uptoSmall }

/-- 'gantletlaw05.EpochQuiet', WHERE WHAT IT READS IS OF BULK AT MOST 1048576: true; the input reads as it did. -/
def epochQuietUptoRow : OpenClaim := { program := "ytaggoepiandblaa", sum := "9dfad9ab7bf8a2c64c54506a9b18f341d38406d123e19e1352af7e35e1f5fcd9", func := "gantlet/gantletlaw05.EpochQuiet", spec := "epochQuiet", inPlace := ["sync/atomic.LoadInt64", "sync/atomic.AddInt64"], apart := false, narrowed := true }
def EpochQuietUptoSaid : Prop := epochQuietUptoRow.holds Try.pinned (OpenSpec.upto epochQuietSpec)

/-- 'gantletlaw05.EpochRuns', WHERE WHAT IT READS IS OF BULK AT MOST 1048576: true; the input reads as it did. -/
def epochRunsUptoRow : OpenClaim := { program := "ytaggoepiandblaa", sum := "9dfad9ab7bf8a2c64c54506a9b18f341d38406d123e19e1352af7e35e1f5fcd9", func := "gantlet/gantletlaw05.EpochRuns", spec := "epochRuns", inPlace := ["sync/atomic.LoadInt64", "sync/atomic.AddInt64", "sync/atomic.StoreInt64"], apart := false, narrowed := true }
def EpochRunsUptoSaid : Prop := epochRunsUptoRow.holds Try.pinned (OpenSpec.upto epochRunsSpec)

/-- 'gantletlaw05.EpochNobody', WHERE WHAT IT READS IS OF BULK AT MOST 1048576: true; the input reads as it did. -/
def epochNobodyUptoRow : OpenClaim := { program := "ytaggoepiandblaa", sum := "9dfad9ab7bf8a2c64c54506a9b18f341d38406d123e19e1352af7e35e1f5fcd9", func := "gantlet/gantletlaw05.EpochNobody", spec := "epochNobody", inPlace := ["sync/atomic.LoadInt64", "sync/atomic.AddInt64", "sync/atomic.StoreInt64"], apart := false, narrowed := true }
def EpochNobodyUptoSaid : Prop := epochNobodyUptoRow.holds Try.pinned (OpenSpec.upto epochNobodySpec)

end Rows
end Go.Proofs.Ytaggoepiandblaa
