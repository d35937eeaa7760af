/-
  No cell of these rows narrows 'for every input' (looked for: loops, veiled, ifaces, maps, wideKeys, modest, calm, conditions, laid).
  DERIVED. THE GIVEN ROWS OF THIS SEAT. 4 by the template 'for every input the law returns true; each argument reads behind the call as it read before'; 0 by the template 'total and deterministic' (their statements: YtmckaimgeflncaaTotals.lean).
  GIVEN WITH THE SEED: the statements are not yours to turn. If you find one false, say at which input.
  Laid BY PROGRAM, IN A SANDBOX (cutbox-rows.mjs): the forced cells as the released guide's own fill.sh prints them over the translation 172af542d59c2d35… (all of the seat's roots in one cut). By AI agents, Wed Nov 11 2026. No macro, syntax, notation, axiom, sorry.
-/
import Derived.Test.YtmckaimgeflncaaChecked
import GoSem.Claim
import GoSem.ClaimJoined
import GoSem.ClaimMapViews
import Derived.JoinedTies
import Derived.KernelRfl
namespace Go.Proofs.Ytmckaimgeflncaa
/- THE CELL 'sum', in the pinned program and in every row, IS THE sha256 OF THE DUMP (.gsa) THAT YtmckaimgeflncaaProg.lean LOADS. Nothing in Lean hashes anything: it is a label: what it is worth is what the hold of that sum in a sandbox is worth. -/
noncomputable def Try.pinned : Pinned := { name := "ytmckaimgeflncaa", sum := "172af542d59c2d351ed0ed6db59807e5d5dbe7d7aa0c69861a1bfe7b42741e37", checked := Try.checked }
namespace Rows
def none {H : Type} : Left H := { results := [], args := [] }

/-- 'gantletlaw11.ProgBytes': WHATEVER THE INPUT: true; the input reads as it did. -/
def progBytesSpec : ChangeSpec := { name := "progBytes", fn := fun _ => fun
  | [d1, d2] => { results := [.lit (.bool true)], args := [d1, d2] }
  | _ => none }
def progBytesRow : OpenClaim := { program := "ytmckaimgeflncaa", sum := "172af542d59c2d351ed0ed6db59807e5d5dbe7d7aa0c69861a1bfe7b42741e37", func := "gantlet/gantletlaw11.ProgBytes", spec := "progBytes", unfollowed := true, recurses := true, apart := false }
def ProgBytesSaid : Prop := progBytesRow.holds Try.pinned (OpenSpec.ofChange progBytesSpec)

/-- ITS FALSE NEIGHBOUR: 'it returns false'. Refute it at one input. -/
def progBytesWrong : ChangeSpec := { name := "progBytes", fn := fun _ => fun
  | [d1, d2] => { results := [.lit (.bool false)], args := [d1, d2] }
  | _ => none }
def ProgBytesWrongFalsely : Prop := progBytesRow.holds Try.pinned (OpenSpec.ofChange progBytesWrong)

/-- 'gantletlaw11.ProgBack': WHATEVER THE INPUT: true; the input reads as it did. -/
def progBackSpec : ChangeSpec := { name := "progBack", fn := fun _ => fun
  | [d1, d2, d3, d4] => { results := [.lit (.bool true)], args := [d1, d2, d3, d4] }
  | _ => none }
def progBackRow : OpenClaim := { program := "ytmckaimgeflncaa", sum := "172af542d59c2d351ed0ed6db59807e5d5dbe7d7aa0c69861a1bfe7b42741e37", func := "gantlet/gantletlaw11.ProgBack", spec := "progBack", unfollowed := true, recurses := true, apart := false }
def ProgBackSaid : Prop := progBackRow.holds Try.pinned (OpenSpec.ofChange progBackSpec)

/-- ITS FALSE NEIGHBOUR: 'it returns false'. Refute it at one input. -/
def progBackWrong : ChangeSpec := { name := "progBack", fn := fun _ => fun
  | [d1, d2, d3, d4] => { results := [.lit (.bool false)], args := [d1, d2, d3, d4] }
  | _ => none }
def ProgBackWrongFalsely : Prop := progBackRow.holds Try.pinned (OpenSpec.ofChange progBackWrong)

/-- 'gantletlaw11.ProgParts': WHATEVER THE INPUT: true; the input reads as it did. -/
def progPartsSpec : ChangeSpec := { name := "progParts", fn := fun _ => fun
  | [d1, d2] => { results := [.lit (.bool true)], args := [d1, d2] }
  | _ => none }
def progPartsRow : OpenClaim := { program := "ytmckaimgeflncaa", sum := "172af542d59c2d351ed0ed6db59807e5d5dbe7d7aa0c69861a1bfe7b42741e37", func := "gantlet/gantletlaw11.ProgParts", spec := "progParts", unfollowed := true, recurses := true, apart := false }
def ProgPartsSaid : Prop := progPartsRow.holds Try.pinned (OpenSpec.ofChange progPartsSpec)

/-- ITS FALSE NEIGHBOUR: 'it returns false'. Refute it at one input. -/
def progPartsWrong : ChangeSpec := { name := "progParts", fn := fun _ => fun
  | [d1, d2] => { results := [.lit (.bool false)], args := [d1, d2] }
  | _ => none }
def ProgPartsWrongFalsely : Prop := progPartsRow.holds Try.pinned (OpenSpec.ofChange progPartsWrong)

/-- 'gantletlaw11.ProgLinks': WHATEVER THE INPUT: true; the input reads as it did. -/
def progLinksSpec : ChangeSpec := { name := "progLinks", fn := fun _ => fun
  | [d1, d2, d3] => { results := [.lit (.bool true)], args := [d1, d2, d3] }
  | _ => none }
def progLinksRow : OpenClaim := { program := "ytmckaimgeflncaa", sum := "172af542d59c2d351ed0ed6db59807e5d5dbe7d7aa0c69861a1bfe7b42741e37", func := "gantlet/gantletlaw11.ProgLinks", spec := "progLinks", unfollowed := true, recurses := true, apart := false }
def ProgLinksSaid : Prop := progLinksRow.holds Try.pinned (OpenSpec.ofChange progLinksSpec)

/-- ITS FALSE NEIGHBOUR: 'it returns false'. Refute it at one input. -/
def progLinksWrong : ChangeSpec := { name := "progLinks", fn := fun _ => fun
  | [d1, d2, d3] => { results := [.lit (.bool false)], args := [d1, d2, d3] }
  | _ => none }
def ProgLinksWrongFalsely : Prop := progLinksRow.holds Try.pinned (OpenSpec.ofChange progLinksWrong)

/- THE SECOND FORM. 'bulk': how many values and letters a reading holds, each counted each time it is reached (what is shared counts as often as it is met; a slice's spare places count too). A statement '..UptoSaid' is the law's where the arguments, and the package variables that the reading takes, are together of bulk at most 1048576: NARROWER than '..Said'. Prove '..Said' where nothing that the law and all that it calls make is longer than what came in: it says more and counts as full. Else prove '..UptoSaid'. A law counts once. -/
mutual
def uptoBulk {H : Type} : DataW H → Nat
  | .lit (.string bytes) => bytes.length + 1
  | .lit _ => 1
  | .nil => 1
  | .ptr d => uptoBulk d + 1
  | .slice elems spare => uptoBulkAll elems + uptoBulkAll spare + 1
  | .agg parts => uptoBulkAll parts + 1
  | .iface _ d => uptoBulk d + 1
  | .map entries => uptoBulkEntries entries + 1
  | .held _ => 1
def uptoBulkAll {H : Type} : List (DataW H) → Nat
  | [] => 0
  | d :: r => uptoBulk d + uptoBulkAll r
def uptoBulkEntries {H : Type} : List (Lit × DataW H) → Nat
  | [] => 0
  | x :: r => uptoBulkEntry x + uptoBulkEntries r
def uptoBulkEntry {H : Type} : Lit × DataW H → Nat
  | (.string bytes, d) => bytes.length + uptoBulk d + 1
  | (_, d) => uptoBulk d + 1
 end
def uptoSmall : (H : Type) → List (DataW H) → Bool := fun _ ds => decide (uptoBulkAll ds ≤ 1048576)
def OpenSpec.upto (s : _root_.Go.ChangeSpec) : _root_.Go.OpenSpec := { _root_.Go.OpenSpec.ofChange s with cond := some uptoSmall }

/-- 'gantletlaw11.ProgBytes', WHERE WHAT IT READS IS OF BULK AT MOST 1048576: true; the input reads as it did. -/
def progBytesUptoRow : OpenClaim := { program := "ytmckaimgeflncaa", sum := "172af542d59c2d351ed0ed6db59807e5d5dbe7d7aa0c69861a1bfe7b42741e37", func := "gantlet/gantletlaw11.ProgBytes", spec := "progBytes", unfollowed := true, recurses := true, apart := false, narrowed := true }
def ProgBytesUptoSaid : Prop := progBytesUptoRow.holds Try.pinned (OpenSpec.upto progBytesSpec)

/-- 'gantletlaw11.ProgBack', WHERE WHAT IT READS IS OF BULK AT MOST 1048576: true; the input reads as it did. -/
def progBackUptoRow : OpenClaim := { program := "ytmckaimgeflncaa", sum := "172af542d59c2d351ed0ed6db59807e5d5dbe7d7aa0c69861a1bfe7b42741e37", func := "gantlet/gantletlaw11.ProgBack", spec := "progBack", unfollowed := true, recurses := true, apart := false, narrowed := true }
def ProgBackUptoSaid : Prop := progBackUptoRow.holds Try.pinned (OpenSpec.upto progBackSpec)

/-- 'gantletlaw11.ProgParts', WHERE WHAT IT READS IS OF BULK AT MOST 1048576: true; the input reads as it did. -/
def progPartsUptoRow : OpenClaim := { program := "ytmckaimgeflncaa", sum := "172af542d59c2d351ed0ed6db59807e5d5dbe7d7aa0c69861a1bfe7b42741e37", func := "gantlet/gantletlaw11.ProgParts", spec := "progParts", unfollowed := true, recurses := true, apart := false, narrowed := true }
def ProgPartsUptoSaid : Prop := progPartsUptoRow.holds Try.pinned (OpenSpec.upto progPartsSpec)

/-- 'gantletlaw11.ProgLinks', WHERE WHAT IT READS IS OF BULK AT MOST 1048576: true; the input reads as it did. -/
def progLinksUptoRow : OpenClaim := { program := "ytmckaimgeflncaa", sum := "172af542d59c2d351ed0ed6db59807e5d5dbe7d7aa0c69861a1bfe7b42741e37", func := "gantlet/gantletlaw11.ProgLinks", spec := "progLinks", unfollowed := true, recurses := true, apart := false, narrowed := true }
def ProgLinksUptoSaid : Prop := progLinksUptoRow.holds Try.pinned (OpenSpec.upto progLinksSpec)

end Rows
end Go.Proofs.Ytmckaimgeflncaa
