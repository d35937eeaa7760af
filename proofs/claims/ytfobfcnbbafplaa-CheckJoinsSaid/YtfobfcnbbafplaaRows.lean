/-
  No cell of these rows narrows 'for every input' (looked for: loops, veiled, ifaces, maps, wideKeys, modest, calm, conditions, laid).
  DERIVED. THE GIVEN ROWS OF THIS SEAT. 6 by the template 'for every input the law returns true; each argument reads behind the call as it read before'; 0 by the template 'total and deterministic' (their statements: YtfobfcnbbafplaaTotals.lean).
  GIVEN WITH THE SEED: the statements are not yours to turn. If you find one false, say at which input.
  Laid BY PROGRAM, IN A SANDBOX (cutbox-rows.mjs): the forced cells as the released guide's own fill.sh prints them over the translation 82cb22f92b5f5597… (all of the seat's roots in one cut). By AI agents, Wed Nov 11 2026. No macro, syntax, notation, axiom, sorry.
-/
import Derived.Test.YtfobfcnbbafplaaChecked
import GoSem.Claim
import GoSem.ClaimJoined
import GoSem.ClaimMapViews
import Derived.JoinedTies
import Derived.KernelRfl
namespace Go.Proofs.Ytfobfcnbbafplaa
/- THE CELL 'sum', in the pinned program and in every row, IS THE sha256 OF THE DUMP (.gsa) THAT YtfobfcnbbafplaaProg.lean LOADS. Nothing in Lean hashes anything: it is a label: what it is worth is what the hold of that sum in a sandbox is worth. -/
noncomputable def Try.pinned : Pinned := { name := "ytfobfcnbbafplaa", sum := "82cb22f92b5f559744c383817bc03ff3544576045c7747a048db1e5513a05729", checked := Try.checked }
namespace Rows
def none {H : Type} : Left H := { results := [], args := [] }

/-- 'gantletlaw12.CheckRound': WHATEVER THE INPUT: true; the input reads as it did. -/
def checkRoundSpec : ChangeSpec := { name := "checkRound", fn := fun _ => fun
  | [d] => { results := [.lit (.bool true)], args := [d] }
  | _ => none }
def checkRoundRow : OpenClaim := { program := "ytfobfcnbbafplaa", sum := "82cb22f92b5f559744c383817bc03ff3544576045c7747a048db1e5513a05729", func := "gantlet/gantletlaw12.CheckRound", spec := "checkRound", apart := false }
def CheckRoundSaid : Prop := checkRoundRow.holds Try.pinned (OpenSpec.ofChange checkRoundSpec)

/-- ITS FALSE NEIGHBOUR: 'it returns false'. Refute it at one input. -/
def checkRoundWrong : ChangeSpec := { name := "checkRound", fn := fun _ => fun
  | [d] => { results := [.lit (.bool false)], args := [d] }
  | _ => none }
def CheckRoundWrongFalsely : Prop := checkRoundRow.holds Try.pinned (OpenSpec.ofChange checkRoundWrong)

/-- 'gantletlaw12.CheckForms': WHATEVER THE INPUT: true; the input reads as it did. -/
def checkFormsSpec : ChangeSpec := { name := "checkForms", fn := fun _ => fun
  | [d] => { results := [.lit (.bool true)], args := [d] }
  | _ => none }
def checkFormsRow : OpenClaim := { program := "ytfobfcnbbafplaa", sum := "82cb22f92b5f559744c383817bc03ff3544576045c7747a048db1e5513a05729", func := "gantlet/gantletlaw12.CheckForms", spec := "checkForms", apart := false }
def CheckFormsSaid : Prop := checkFormsRow.holds Try.pinned (OpenSpec.ofChange checkFormsSpec)

/-- ITS FALSE NEIGHBOUR: 'it returns false'. Refute it at one input. -/
def checkFormsWrong : ChangeSpec := { name := "checkForms", fn := fun _ => fun
  | [d] => { results := [.lit (.bool false)], args := [d] }
  | _ => none }
def CheckFormsWrongFalsely : Prop := checkFormsRow.holds Try.pinned (OpenSpec.ofChange checkFormsWrong)

/-- 'gantletlaw12.CheckStays': WHATEVER THE INPUT: true; the input reads as it did. -/
def checkStaysSpec : ChangeSpec := { name := "checkStays", fn := fun _ => fun
  | [d] => { results := [.lit (.bool true)], args := [d] }
  | _ => none }
def checkStaysRow : OpenClaim := { program := "ytfobfcnbbafplaa", sum := "82cb22f92b5f559744c383817bc03ff3544576045c7747a048db1e5513a05729", func := "gantlet/gantletlaw12.CheckStays", spec := "checkStays", apart := false }
def CheckStaysSaid : Prop := checkStaysRow.holds Try.pinned (OpenSpec.ofChange checkStaysSpec)

/-- ITS FALSE NEIGHBOUR: 'it returns false'. Refute it at one input. -/
def checkStaysWrong : ChangeSpec := { name := "checkStays", fn := fun _ => fun
  | [d] => { results := [.lit (.bool false)], args := [d] }
  | _ => none }
def CheckStaysWrongFalsely : Prop := checkStaysRow.holds Try.pinned (OpenSpec.ofChange checkStaysWrong)

/-- 'gantletlaw12.CheckBounds': WHATEVER THE INPUT: true; the input reads as it did. -/
def checkBoundsSpec : ChangeSpec := { name := "checkBounds", fn := fun _ => fun
  | [d1, d2] => { results := [.lit (.bool true)], args := [d1, d2] }
  | _ => none }
def checkBoundsRow : OpenClaim := { program := "ytfobfcnbbafplaa", sum := "82cb22f92b5f559744c383817bc03ff3544576045c7747a048db1e5513a05729", func := "gantlet/gantletlaw12.CheckBounds", spec := "checkBounds", apart := false }
def CheckBoundsSaid : Prop := checkBoundsRow.holds Try.pinned (OpenSpec.ofChange checkBoundsSpec)

/-- ITS FALSE NEIGHBOUR: 'it returns false'. Refute it at one input. -/
def checkBoundsWrong : ChangeSpec := { name := "checkBounds", fn := fun _ => fun
  | [d1, d2] => { results := [.lit (.bool false)], args := [d1, d2] }
  | _ => none }
def CheckBoundsWrongFalsely : Prop := checkBoundsRow.holds Try.pinned (OpenSpec.ofChange checkBoundsWrong)

/-- 'gantletlaw12.CheckJoins': WHATEVER THE INPUT: true; the input reads as it did. -/
def checkJoinsSpec : ChangeSpec := { name := "checkJoins", fn := fun _ => fun
  | [d1, d2] => { results := [.lit (.bool true)], args := [d1, d2] }
  | _ => none }
def checkJoinsRow : OpenClaim := { program := "ytfobfcnbbafplaa", sum := "82cb22f92b5f559744c383817bc03ff3544576045c7747a048db1e5513a05729", func := "gantlet/gantletlaw12.CheckJoins", spec := "checkJoins", apart := false }
def CheckJoinsSaid : Prop := checkJoinsRow.holds Try.pinned (OpenSpec.ofChange checkJoinsSpec)

/-- ITS FALSE NEIGHBOUR: 'it returns false'. Refute it at one input. -/
def checkJoinsWrong : ChangeSpec := { name := "checkJoins", fn := fun _ => fun
  | [d1, d2] => { results := [.lit (.bool false)], args := [d1, d2] }
  | _ => none }
def CheckJoinsWrongFalsely : Prop := checkJoinsRow.holds Try.pinned (OpenSpec.ofChange checkJoinsWrong)

/-- 'gantletlaw12.CheckMates': WHATEVER THE INPUT: true; the input reads as it did. -/
def checkMatesSpec : ChangeSpec := { name := "checkMates", fn := fun _ => fun
  | [d1, d2] => { results := [.lit (.bool true)], args := [d1, d2] }
  | _ => none }
def checkMatesRow : OpenClaim := { program := "ytfobfcnbbafplaa", sum := "82cb22f92b5f559744c383817bc03ff3544576045c7747a048db1e5513a05729", func := "gantlet/gantletlaw12.CheckMates", spec := "checkMates", apart := false }
def CheckMatesSaid : Prop := checkMatesRow.holds Try.pinned (OpenSpec.ofChange checkMatesSpec)

/-- ITS FALSE NEIGHBOUR: 'it returns false'. Refute it at one input. -/
def checkMatesWrong : ChangeSpec := { name := "checkMates", fn := fun _ => fun
  | [d1, d2] => { results := [.lit (.bool false)], args := [d1, d2] }
  | _ => none }
def CheckMatesWrongFalsely : Prop := checkMatesRow.holds Try.pinned (OpenSpec.ofChange checkMatesWrong)

/- THE SECOND FORM. 'bulk': how many values and letters a reading holds, each counted each time it is reached (what is shared counts as often as it is met; a slice's spare places count too). A statement '..UptoSaid' is the law's where the arguments, and the package variables that the reading takes, are together of bulk at most 1048576: NARROWER than '..Said'. Prove '..Said' where nothing that the law and all that it calls make is longer than what came in: it says more and counts as full. Else prove '..UptoSaid'. A law counts once. -/
mutual
def uptoBulk {H : Type} : DataW H → Nat
  | .lit (.string bytes) => bytes.length + 1
  | .lit _ => 1
  | .nil => 1
  | .ptr d => uptoBulk d + 1
  | .slice elems spare => uptoBulkAll elems + uptoBulkAll spare + 1
  | .agg parts => uptoBulkAll parts + 1
  | .iface _ d => uptoBulk d + 1
  | .map entries => uptoBulkEntries entries + 1
  | .held _ => 1
def uptoBulkAll {H : Type} : List (DataW H) → Nat
  | [] => 0
  | d :: r => uptoBulk d + uptoBulkAll r
def uptoBulkEntries {H : Type} : List (Lit × DataW H) → Nat
  | [] => 0
  | x :: r => uptoBulkEntry x + uptoBulkEntries r
def uptoBulkEntry {H : Type} : Lit × DataW H → Nat
  | (.string bytes, d) => bytes.length + uptoBulk d + 1
  | (_, d) => uptoBulk d + 1
 end
def uptoSmall : (H : Type) → List (DataW H) → Bool := fun _ ds => decide (uptoBulkAll ds ≤ 1048576)
def OpenSpec.upto (s : _root_.Go.ChangeSpec) : _root_.Go.OpenSpec := { _root_.Go.OpenSpec.ofChange s with cond := some uptoSmall }

/-- 'gantletlaw12.CheckRound', WHERE WHAT IT READS IS OF BULK AT MOST 1048576: true; the input reads as it did. -/
def checkRoundUptoRow : OpenClaim := { program := "ytfobfcnbbafplaa", sum := "82cb22f92b5f559744c383817bc03ff3544576045c7747a048db1e5513a05729", func := "gantlet/gantletlaw12.CheckRound", spec := "checkRound", apart := false, narrowed := true }
def CheckRoundUptoSaid : Prop := checkRoundUptoRow.holds Try.pinned (OpenSpec.upto checkRoundSpec)

/-- 'gantletlaw12.CheckForms', WHERE WHAT IT READS IS OF BULK AT MOST 1048576: true; the input reads as it did. -/
def checkFormsUptoRow : OpenClaim := { program := "ytfobfcnbbafplaa", sum := "82cb22f92b5f559744c383817bc03ff3544576045c7747a048db1e5513a05729", func := "gantlet/gantletlaw12.CheckForms", spec := "checkForms", apart := false, narrowed := true }
def CheckFormsUptoSaid : Prop := checkFormsUptoRow.holds Try.pinned (OpenSpec.upto checkFormsSpec)

/-- 'gantletlaw12.CheckStays', WHERE WHAT IT READS IS OF BULK AT MOST 1048576: true; the input reads as it did. -/
def checkStaysUptoRow : OpenClaim := { program := "ytfobfcnbbafplaa", sum := "82cb22f92b5f559744c383817bc03ff3544576045c7747a048db1e5513a05729", func := "gantlet/gantletlaw12.CheckStays", spec := "checkStays", apart := false, narrowed := true }
def CheckStaysUptoSaid : Prop := checkStaysUptoRow.holds Try.pinned (OpenSpec.upto checkStaysSpec)

/-- 'gantletlaw12.CheckBounds', WHERE WHAT IT READS IS OF BULK AT MOST 1048576: true; the input reads as it did. -/
def checkBoundsUptoRow : OpenClaim := { program := "ytfobfcnbbafplaa", sum := "82cb22f92b5f559744c383817bc03ff3544576045c7747a048db1e5513a05729", func := "gantlet/gantletlaw12.CheckBounds", spec := "checkBounds", apart := false, narrowed := true }
def CheckBoundsUptoSaid : Prop := checkBoundsUptoRow.holds Try.pinned (OpenSpec.upto checkBoundsSpec)

/-- 'gantletlaw12.CheckJoins', WHERE WHAT IT READS IS OF BULK AT MOST 1048576: true; the input reads as it did. -/
def checkJoinsUptoRow : OpenClaim := { program := "ytfobfcnbbafplaa", sum := "82cb22f92b5f559744c383817bc03ff3544576045c7747a048db1e5513a05729", func := "gantlet/gantletlaw12.CheckJoins", spec := "checkJoins", apart := false, narrowed := true }
def CheckJoinsUptoSaid : Prop := checkJoinsUptoRow.holds Try.pinned (OpenSpec.upto checkJoinsSpec)

/-- 'gantletlaw12.CheckMates', WHERE WHAT IT READS IS OF BULK AT MOST 1048576: true; the input reads as it did. -/
def checkMatesUptoRow : OpenClaim := { program := "ytfobfcnbbafplaa", sum := "82cb22f92b5f559744c383817bc03ff3544576045c7747a048db1e5513a05729", func := "gantlet/gantletlaw12.CheckMates", spec := "checkMates", apart := false, narrowed := true }
def CheckMatesUptoSaid : Prop := checkMatesUptoRow.holds Try.pinned (OpenSpec.upto checkMatesSpec)

end Rows
end Go.Proofs.Ytfobfcnbbafplaa
