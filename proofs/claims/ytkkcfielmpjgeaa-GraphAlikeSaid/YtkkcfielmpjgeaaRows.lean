/-
  No cell of these rows narrows 'for every input' (looked for: loops, veiled, ifaces, maps, wideKeys, modest, calm, conditions, laid).
  DERIVED. THE GIVEN ROWS OF THIS SEAT. 2 by the template 'for every input the law returns true; each argument reads behind the call as it read before'; 0 by the template 'total and deterministic' (their statements: YtkkcfielmpjgeaaTotals.lean).
  GIVEN WITH THE SEED: the statements are not yours to turn. If you find one false, say at which input.
  Laid BY PROGRAM, IN A SANDBOX (cutbox-rows.mjs): the forced cells as the released guide's own fill.sh prints them over the translation 8e3f09b0319d1cb0… (all of the seat's roots in one cut). By AI agents, Wed Nov 11 2026. No macro, syntax, notation, axiom, sorry.
-/
import Derived.Test.YtkkcfielmpjgeaaChecked
import GoSem.Claim
import GoSem.ClaimJoined
import GoSem.ClaimMapViews
import Derived.JoinedTies
import Derived.KernelRfl
namespace Go.Proofs.Ytkkcfielmpjgeaa
/- THE CELL 'sum', in the pinned program and in every row, IS THE sha256 OF THE DUMP (.gsa) THAT YtkkcfielmpjgeaaProg.lean LOADS. Nothing in Lean hashes anything: it is a label: what it is worth is what the hold of that sum in a sandbox is worth. -/
noncomputable def Try.pinned : Pinned := { name := "ytkkcfielmpjgeaa", sum := "8e3f09b0319d1cb080cf2ccb40320dce5f79a51f19dcdd34aa9d2313b702074e", checked := Try.checked }
namespace Rows
def none {H : Type} : Left H := { results := [], args := [] }

/-- 'gantletlaw16.GraphClosed': WHATEVER THE INPUT: true; the input reads as it did. -/
def graphClosedSpec : ChangeSpec := { name := "graphClosed", fn := fun _ => fun
  | [d1, d2] => { results := [.lit (.bool true)], args := [d1, d2] }
  | _ => none }
def graphClosedRow : OpenClaim := { program := "ytkkcfielmpjgeaa", sum := "8e3f09b0319d1cb080cf2ccb40320dce5f79a51f19dcdd34aa9d2313b702074e", func := "gantlet/gantletlaw16.GraphClosed", spec := "graphClosed", unfollowed := true, recurses := true, plainKeys := false, apart := false }
def GraphClosedSaid : Prop := graphClosedRow.holds Try.pinned (OpenSpec.ofChange graphClosedSpec)

/-- ITS FALSE NEIGHBOUR: 'it returns false'. Refute it at one input. -/
def graphClosedWrong : ChangeSpec := { name := "graphClosed", fn := fun _ => fun
  | [d1, d2] => { results := [.lit (.bool false)], args := [d1, d2] }
  | _ => none }
def GraphClosedWrongFalsely : Prop := graphClosedRow.holds Try.pinned (OpenSpec.ofChange graphClosedWrong)

/-- 'gantletlaw16.GraphAlike': WHATEVER THE INPUT: true; the input reads as it did. -/
def graphAlikeSpec : ChangeSpec := { name := "graphAlike", fn := fun _ => fun
  | [d1, d2] => { results := [.lit (.bool true)], args := [d1, d2] }
  | _ => none }
def graphAlikeRow : OpenClaim := { program := "ytkkcfielmpjgeaa", sum := "8e3f09b0319d1cb080cf2ccb40320dce5f79a51f19dcdd34aa9d2313b702074e", func := "gantlet/gantletlaw16.GraphAlike", spec := "graphAlike", unfollowed := true, recurses := true, plainKeys := false, apart := false }
def GraphAlikeSaid : Prop := graphAlikeRow.holds Try.pinned (OpenSpec.ofChange graphAlikeSpec)

/-- ITS FALSE NEIGHBOUR: 'it returns false'. Refute it at one input. -/
def graphAlikeWrong : ChangeSpec := { name := "graphAlike", fn := fun _ => fun
  | [d1, d2] => { results := [.lit (.bool false)], args := [d1, d2] }
  | _ => none }
def GraphAlikeWrongFalsely : Prop := graphAlikeRow.holds Try.pinned (OpenSpec.ofChange graphAlikeWrong)

/- THE SECOND FORM. 'bulk': how many values and letters a reading holds, each counted each time it is reached (what is shared counts as often as it is met; a slice's spare places count too). A statement '..UptoSaid' is the law's where the arguments, and the package variables that the reading takes, are together of bulk at most 1048576: NARROWER than '..Said'. Prove '..Said' where nothing that the law and all that it calls make is longer than what came in: it says more and counts as full. Else prove '..UptoSaid'. A law counts once. -/
mutual
def uptoBulk {H : Type} : DataW H → Nat
  | .lit (.string bytes) => bytes.length + 1
  | .lit _ => 1
  | .nil => 1
  | .ptr d => uptoBulk d + 1
  | .slice elems spare => uptoBulkAll elems + uptoBulkAll spare + 1
  | .agg parts => uptoBulkAll parts + 1
  | .iface _ d => uptoBulk d + 1
  | .map entries => uptoBulkEntries entries + 1
  | .held _ => 1
def uptoBulkAll {H : Type} : List (DataW H) → Nat
  | [] => 0
  | d :: r => uptoBulk d + uptoBulkAll r
def uptoBulkEntries {H : Type} : List (Lit × DataW H) → Nat
  | [] => 0
  | x :: r => uptoBulkEntry x + uptoBulkEntries r
def uptoBulkEntry {H : Type} : Lit × DataW H → Nat
  | (.string bytes, d) => bytes.length + uptoBulk d + 1
  | (_, d) => uptoBulk d + 1
 end
def uptoSmall : (H : Type) → List (DataW H) → Bool := fun _ ds => decide (uptoBulkAll ds ≤ 1048576)
def OpenSpec.upto (s : _root_.Go.ChangeSpec) : _root_.Go.OpenSpec := { _root_.Go.OpenSpec.ofChange s with cond := some uptoSmall }

/-- 'gantletlaw16.GraphClosed', WHERE WHAT IT READS IS OF BULK AT MOST 1048576: true; the input reads as it did. -/
def graphClosedUptoRow : OpenClaim := { program := "ytkkcfielmpjgeaa", sum := "8e3f09b0319d1cb080cf2ccb40320dce5f79a51f19dcdd34aa9d2313b702074e", func := "gantlet/gantletlaw16.GraphClosed", spec := "graphClosed", unfollowed := true, recurses := true, plainKeys := false, apart := false, narrowed := true }
def GraphClosedUptoSaid : Prop := graphClosedUptoRow.holds Try.pinned (OpenSpec.upto graphClosedSpec)

/-- 'gantletlaw16.GraphAlike', WHERE WHAT IT READS IS OF BULK AT MOST 1048576: true; the input reads as it did. -/
def graphAlikeUptoRow : OpenClaim := { program := "ytkkcfielmpjgeaa", sum := "8e3f09b0319d1cb080cf2ccb40320dce5f79a51f19dcdd34aa9d2313b702074e", func := "gantlet/gantletlaw16.GraphAlike", spec := "graphAlike", unfollowed := true, recurses := true, plainKeys := false, apart := false, narrowed := true }
def GraphAlikeUptoSaid : Prop := graphAlikeUptoRow.holds Try.pinned (OpenSpec.upto graphAlikeSpec)

end Rows
end Go.Proofs.Ytkkcfielmpjgeaa
