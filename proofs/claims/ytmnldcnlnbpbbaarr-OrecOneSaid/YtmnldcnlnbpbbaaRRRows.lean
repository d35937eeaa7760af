/-
  No cell of these rows narrows 'for every input' (looked for: loops, veiled, ifaces, maps, wideKeys, modest, calm, conditions, laid).
  DERIVED. THE GIVEN ROWS OF THIS SEAT. 2 by the template 'for every input the law returns true; each argument reads behind the call as it read before'; 0 by the template 'total and deterministic' (their statements: YtmnldcnlnbpbbaaRRTotals.lean).
  GIVEN WITH THE SEED: the statements are not yours to turn. If you find one false, say at which input.
  Laid BY PROGRAM, IN A SANDBOX (cutbox-rows.mjs): the forced cells as the released guide's own fill.sh prints them over the translation a9d4a4a6922ca08b… (all of the seat's roots in one cut). By AI agents, Wed Nov 11 2026. No macro, syntax, notation, axiom, sorry.
-/
import Derived.Test.YtmnldcnlnbpbbaaRRChecked
import GoSem.Claim
import GoSem.ClaimJoined
import GoSem.ClaimMapViews
import Derived.JoinedTies
import Derived.KernelRfl
namespace Go.Proofs.YtmnldcnlnbpbbaaRR
/- THE CELL 'sum', in the pinned program and in every row, IS THE sha256 OF THE DUMP (.gsa) THAT YtmnldcnlnbpbbaaRRProg.lean LOADS. Nothing in Lean hashes anything: it is a label: what it is worth is what the hold of that sum in a sandbox is worth. -/
noncomputable def Try.pinned : Pinned := { name := "ytmnldcnlnbpbbaarr", sum := "a9d4a4a6922ca08be073f30fef56661c3d60bad689371f3eb29e7bee968fbd6d", checked := Try.checked }
namespace Rows
def none {H : Type} : Left H := { results := [], args := [] }

/-- 'gantletlaw03.OrecWords': WHATEVER THE INPUT: true; the input reads as it did. -/
def orecWordsSpec : ChangeSpec := { name := "orecWords", fn := fun _ => fun
  | [d1, d2] => { results := [.lit (.bool true)], args := [d1, d2] }
  | _ => none }
def orecWordsRow : OpenClaim := { program := "ytmnldcnlnbpbbaarr", sum := "a9d4a4a6922ca08be073f30fef56661c3d60bad689371f3eb29e7bee968fbd6d", func := "gantlet/gantletlaw03.OrecWords", spec := "orecWords", inPlace := ["sync/atomic.CompareAndSwapInt64", "sync/atomic.AddInt64", "sync/atomic.LoadInt64", "sync/atomic.StoreInt64"], apart := false }
def OrecWordsSaid : Prop := orecWordsRow.holds Try.pinned (OpenSpec.ofChange orecWordsSpec)

/-- ITS FALSE NEIGHBOUR: 'it returns false'. Refute it at one input. -/
def orecWordsWrong : ChangeSpec := { name := "orecWords", fn := fun _ => fun
  | [d1, d2] => { results := [.lit (.bool false)], args := [d1, d2] }
  | _ => none }
def OrecWordsWrongFalsely : Prop := orecWordsRow.holds Try.pinned (OpenSpec.ofChange orecWordsWrong)

/-- 'gantletlaw03.OrecOne': WHATEVER THE INPUT: true; the input reads as it did. -/
def orecOneSpec : ChangeSpec := { name := "orecOne", fn := fun _ => fun
  | [d1, d2] => { results := [.lit (.bool true)], args := [d1, d2] }
  | _ => none }
def orecOneRow : OpenClaim := { program := "ytmnldcnlnbpbbaarr", sum := "a9d4a4a6922ca08be073f30fef56661c3d60bad689371f3eb29e7bee968fbd6d", func := "gantlet/gantletlaw03.OrecOne", spec := "orecOne", inPlace := ["sync/atomic.CompareAndSwapInt64", "sync/atomic.AddInt64", "sync/atomic.LoadInt64", "sync/atomic.StoreInt64"], apart := false }
def OrecOneSaid : Prop := orecOneRow.holds Try.pinned (OpenSpec.ofChange orecOneSpec)

/-- ITS FALSE NEIGHBOUR: 'it returns false'. Refute it at one input. -/
def orecOneWrong : ChangeSpec := { name := "orecOne", fn := fun _ => fun
  | [d1, d2] => { results := [.lit (.bool false)], args := [d1, d2] }
  | _ => none }
def OrecOneWrongFalsely : Prop := orecOneRow.holds Try.pinned (OpenSpec.ofChange orecOneWrong)

/- THE SECOND FORM. 'bulk': how many values and letters a reading holds, each counted each time it is reached (what is shared counts as often as it is met; a slice's spare places count too). A statement '..UptoSaid' is the law's where the arguments, and the package variables that the reading takes, are together of bulk at most 1048576: NARROWER than '..Said'. Prove '..Said' where nothing that the law and all that it calls make is longer than what came in: it says more and counts as full. Else prove '..UptoSaid'. A law counts once. -/
mutual
def uptoBulk {H : Type} : DataW H → Nat
  | .lit (.string bytes) => bytes.length + 1
  | .lit _ => 1
  | .nil => 1
  | .ptr d => uptoBulk d + 1
  | .slice elems spare => uptoBulkAll elems + uptoBulkAll spare + 1
  | .agg parts => uptoBulkAll parts + 1
  | .iface _ d => uptoBulk d + 1
  | .map entries => uptoBulkEntries entries + 1
  | .held _ => 1
def uptoBulkAll {H : Type} : List (DataW H) → Nat
  | [] => 0
  | d :: r => uptoBulk d + uptoBulkAll r
def uptoBulkEntries {H : Type} : List (Lit × DataW H) → Nat
  | [] => 0
  | x :: r => uptoBulkEntry x + uptoBulkEntries r
def uptoBulkEntry {H : Type} : Lit × DataW H → Nat
  | (.string bytes, d) => bytes.length + uptoBulk d + 1
  | (_, d) => uptoBulk d + 1
 end
def uptoSmall : (H : Type) → List (DataW H) → Bool := fun _ ds => decide (uptoBulkAll ds ≤ 1048576)
def OpenSpec.upto (s : _root_.Go.ChangeSpec) : _root_.Go.OpenSpec := { _root_.Go.OpenSpec.ofChange s with cond := some uptoSmall }

/-- 'gantletlaw03.OrecWords', WHERE WHAT IT READS IS OF BULK AT MOST 1048576: true; the input reads as it did. -/
def orecWordsUptoRow : OpenClaim := { program := "ytmnldcnlnbpbbaarr", sum := "a9d4a4a6922ca08be073f30fef56661c3d60bad689371f3eb29e7bee968fbd6d", func := "gantlet/gantletlaw03.OrecWords", spec := "orecWords", inPlace := ["sync/atomic.CompareAndSwapInt64", "sync/atomic.AddInt64", "sync/atomic.LoadInt64", "sync/atomic.StoreInt64"], apart := false, narrowed := true }
def OrecWordsUptoSaid : Prop := orecWordsUptoRow.holds Try.pinned (OpenSpec.upto orecWordsSpec)

/-- 'gantletlaw03.OrecOne', WHERE WHAT IT READS IS OF BULK AT MOST 1048576: true; the input reads as it did. -/
def orecOneUptoRow : OpenClaim := { program := "ytmnldcnlnbpbbaarr", sum := "a9d4a4a6922ca08be073f30fef56661c3d60bad689371f3eb29e7bee968fbd6d", func := "gantlet/gantletlaw03.OrecOne", spec := "orecOne", inPlace := ["sync/atomic.CompareAndSwapInt64", "sync/atomic.AddInt64", "sync/atomic.LoadInt64", "sync/atomic.StoreInt64"], apart := false, narrowed := true }
def OrecOneUptoSaid : Prop := orecOneUptoRow.holds Try.pinned (OpenSpec.upto orecOneSpec)

end Rows
end Go.Proofs.YtmnldcnlnbpbbaaRR
