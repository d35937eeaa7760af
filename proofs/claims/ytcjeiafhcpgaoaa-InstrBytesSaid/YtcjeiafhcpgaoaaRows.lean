/-
  No cell of these rows narrows 'for every input' (looked for: loops, veiled, ifaces, maps, wideKeys, modest, calm, conditions, laid).
  DERIVED. THE GIVEN ROWS OF THIS SEAT. 5 by the template 'for every input the law returns true; each argument reads behind the call as it read before'; 0 by the template 'total and deterministic' (their statements: YtcjeiafhcpgaoaaTotals.lean).
  GIVEN WITH THE SEED: the statements are not yours to turn. If you find one false, say at which input.
  Laid BY PROGRAM, IN A SANDBOX (cutbox-rows.mjs): the forced cells as the released guide's own fill.sh prints them over the translation c37c7f293e885b26… (all of the seat's roots in one cut). By AI agents, Wed Nov 11 2026. No macro, syntax, notation, axiom, sorry.
-/
import Derived.Test.YtcjeiafhcpgaoaaChecked
import GoSem.Claim
import GoSem.ClaimJoined
import GoSem.ClaimMapViews
import Derived.JoinedTies
import Derived.KernelRfl
namespace Go.Proofs.Ytcjeiafhcpgaoaa
/- THE CELL 'sum', in the pinned program and in every row, IS THE sha256 OF THE DUMP (.gsa) THAT YtcjeiafhcpgaoaaProg.lean LOADS. Nothing in Lean hashes anything: it is a label: what it is worth is what the hold of that sum in a sandbox is worth. -/
noncomputable def Try.pinned : Pinned := { name := "ytcjeiafhcpgaoaa", sum := "c37c7f293e885b26f6e5d507f1c031285974534aadbc5e4b7ba04e1e8169bcd9", checked := Try.checked }
namespace Rows
def none {H : Type} : Left H := { results := [], args := [] }

/-- 'gantletlaw10.InstrBytes': WHATEVER THE INPUT: true; the input reads as it did. -/
def instrBytesSpec : ChangeSpec := { name := "instrBytes", fn := fun _ => fun
  | [d1, d2] => { results := [.lit (.bool true)], args := [d1, d2] }
  | _ => none }
def instrBytesRow : OpenClaim := { program := "ytcjeiafhcpgaoaa", sum := "c37c7f293e885b26f6e5d507f1c031285974534aadbc5e4b7ba04e1e8169bcd9", func := "gantlet/gantletlaw10.InstrBytes", spec := "instrBytes", apart := false }
def InstrBytesSaid : Prop := instrBytesRow.holds Try.pinned (OpenSpec.ofChange instrBytesSpec)

/-- ITS FALSE NEIGHBOUR: 'it returns false'. Refute it at one input. -/
def instrBytesWrong : ChangeSpec := { name := "instrBytes", fn := fun _ => fun
  | [d1, d2] => { results := [.lit (.bool false)], args := [d1, d2] }
  | _ => none }
def InstrBytesWrongFalsely : Prop := instrBytesRow.holds Try.pinned (OpenSpec.ofChange instrBytesWrong)

/-- 'gantletlaw10.InstrBack': WHATEVER THE INPUT: true; the input reads as it did. -/
def instrBackSpec : ChangeSpec := { name := "instrBack", fn := fun _ => fun
  | [d1, d2] => { results := [.lit (.bool true)], args := [d1, d2] }
  | _ => none }
def instrBackRow : OpenClaim := { program := "ytcjeiafhcpgaoaa", sum := "c37c7f293e885b26f6e5d507f1c031285974534aadbc5e4b7ba04e1e8169bcd9", func := "gantlet/gantletlaw10.InstrBack", spec := "instrBack", apart := false }
def InstrBackSaid : Prop := instrBackRow.holds Try.pinned (OpenSpec.ofChange instrBackSpec)

/-- ITS FALSE NEIGHBOUR: 'it returns false'. Refute it at one input. -/
def instrBackWrong : ChangeSpec := { name := "instrBack", fn := fun _ => fun
  | [d1, d2] => { results := [.lit (.bool false)], args := [d1, d2] }
  | _ => none }
def InstrBackWrongFalsely : Prop := instrBackRow.holds Try.pinned (OpenSpec.ofChange instrBackWrong)

/-- 'gantletlaw10.InstrNames': WHATEVER THE INPUT: true; the input reads as it did. -/
def instrNamesSpec : ChangeSpec := { name := "instrNames", fn := fun _ => fun
  | [d1, d2] => { results := [.lit (.bool true)], args := [d1, d2] }
  | _ => none }
def instrNamesRow : OpenClaim := { program := "ytcjeiafhcpgaoaa", sum := "c37c7f293e885b26f6e5d507f1c031285974534aadbc5e4b7ba04e1e8169bcd9", func := "gantlet/gantletlaw10.InstrNames", spec := "instrNames", apart := false }
def InstrNamesSaid : Prop := instrNamesRow.holds Try.pinned (OpenSpec.ofChange instrNamesSpec)

/-- ITS FALSE NEIGHBOUR: 'it returns false'. Refute it at one input. -/
def instrNamesWrong : ChangeSpec := { name := "instrNames", fn := fun _ => fun
  | [d1, d2] => { results := [.lit (.bool false)], args := [d1, d2] }
  | _ => none }
def InstrNamesWrongFalsely : Prop := instrNamesRow.holds Try.pinned (OpenSpec.ofChange instrNamesWrong)

/-- 'gantletlaw10.InstrAims': WHATEVER THE INPUT: true; the input reads as it did. -/
def instrAimsSpec : ChangeSpec := { name := "instrAims", fn := fun _ => fun
  | [d1, d2] => { results := [.lit (.bool true)], args := [d1, d2] }
  | _ => none }
def instrAimsRow : OpenClaim := { program := "ytcjeiafhcpgaoaa", sum := "c37c7f293e885b26f6e5d507f1c031285974534aadbc5e4b7ba04e1e8169bcd9", func := "gantlet/gantletlaw10.InstrAims", spec := "instrAims", apart := false }
def InstrAimsSaid : Prop := instrAimsRow.holds Try.pinned (OpenSpec.ofChange instrAimsSpec)

/-- ITS FALSE NEIGHBOUR: 'it returns false'. Refute it at one input. -/
def instrAimsWrong : ChangeSpec := { name := "instrAims", fn := fun _ => fun
  | [d1, d2] => { results := [.lit (.bool false)], args := [d1, d2] }
  | _ => none }
def InstrAimsWrongFalsely : Prop := instrAimsRow.holds Try.pinned (OpenSpec.ofChange instrAimsWrong)

/-- 'gantletlaw10.InstrForms': WHATEVER THE INPUT: true; the input reads as it did. -/
def instrFormsSpec : ChangeSpec := { name := "instrForms", fn := fun _ => fun
  | [d] => { results := [.lit (.bool true)], args := [d] }
  | _ => none }
def instrFormsRow : OpenClaim := { program := "ytcjeiafhcpgaoaa", sum := "c37c7f293e885b26f6e5d507f1c031285974534aadbc5e4b7ba04e1e8169bcd9", func := "gantlet/gantletlaw10.InstrForms", spec := "instrForms", apart := false }
def InstrFormsSaid : Prop := instrFormsRow.holds Try.pinned (OpenSpec.ofChange instrFormsSpec)

/-- ITS FALSE NEIGHBOUR: 'it returns false'. Refute it at one input. -/
def instrFormsWrong : ChangeSpec := { name := "instrForms", fn := fun _ => fun
  | [d] => { results := [.lit (.bool false)], args := [d] }
  | _ => none }
def InstrFormsWrongFalsely : Prop := instrFormsRow.holds Try.pinned (OpenSpec.ofChange instrFormsWrong)

/- THE SECOND FORM. 'bulk': how many values and letters a reading holds, each counted each time it is reached (what is shared counts as often as it is met; a slice's spare places count too). A statement '..UptoSaid' is the law's where the arguments, and the package variables that the reading takes, are together of bulk at most 1048576: NARROWER than '..Said'. Prove '..Said' where nothing that the law and all that it calls make is longer than what came in: it says more and counts as full. Else prove '..UptoSaid'. A law counts once. -/
mutual
def uptoBulk {H : Type} : DataW H → Nat
  | .lit (.string bytes) => bytes.length + 1
  | .lit _ => 1
  | .nil => 1
  | .ptr d => uptoBulk d + 1
  | .slice elems spare => uptoBulkAll elems + uptoBulkAll spare + 1
  | .agg parts => uptoBulkAll parts + 1
  | .iface _ d => uptoBulk d + 1
  | .map entries => uptoBulkEntries entries + 1
  | .held _ => 1
def uptoBulkAll {H : Type} : List (DataW H) → Nat
  | [] => 0
  | d :: r => uptoBulk d + uptoBulkAll r
def uptoBulkEntries {H : Type} : List (Lit × DataW H) → Nat
  | [] => 0
  | x :: r => uptoBulkEntry x + uptoBulkEntries r
def uptoBulkEntry {H : Type} : Lit × DataW H → Nat
  | (.string bytes, d) => bytes.length + uptoBulk d + 1
  | (_, d) => uptoBulk d + 1
 end
def uptoSmall : (H : Type) → List (DataW H) → Bool := fun _ ds => decide (uptoBulkAll ds ≤ 1048576)
def OpenSpec.upto (s : _root_.Go.ChangeSpec) : _root_.Go.OpenSpec := { _root_.Go.OpenSpec.ofChange s with cond := some uptoSmall }

/-- 'gantletlaw10.InstrBytes', WHERE WHAT IT READS IS OF BULK AT MOST 1048576: true; the input reads as it did. -/
def instrBytesUptoRow : OpenClaim := { program := "ytcjeiafhcpgaoaa", sum := "c37c7f293e885b26f6e5d507f1c031285974534aadbc5e4b7ba04e1e8169bcd9", func := "gantlet/gantletlaw10.InstrBytes", spec := "instrBytes", apart := false, narrowed := true }
def InstrBytesUptoSaid : Prop := instrBytesUptoRow.holds Try.pinned (OpenSpec.upto instrBytesSpec)

/-- 'gantletlaw10.InstrBack', WHERE WHAT IT READS IS OF BULK AT MOST 1048576: true; the input reads as it did. -/
def instrBackUptoRow : OpenClaim := { program := "ytcjeiafhcpgaoaa", sum := "c37c7f293e885b26f6e5d507f1c031285974534aadbc5e4b7ba04e1e8169bcd9", func := "gantlet/gantletlaw10.InstrBack", spec := "instrBack", apart := false, narrowed := true }
def InstrBackUptoSaid : Prop := instrBackUptoRow.holds Try.pinned (OpenSpec.upto instrBackSpec)

/-- 'gantletlaw10.InstrNames', WHERE WHAT IT READS IS OF BULK AT MOST 1048576: true; the input reads as it did. -/
def instrNamesUptoRow : OpenClaim := { program := "ytcjeiafhcpgaoaa", sum := "c37c7f293e885b26f6e5d507f1c031285974534aadbc5e4b7ba04e1e8169bcd9", func := "gantlet/gantletlaw10.InstrNames", spec := "instrNames", apart := false, narrowed := true }
def InstrNamesUptoSaid : Prop := instrNamesUptoRow.holds Try.pinned (OpenSpec.upto instrNamesSpec)

/-- 'gantletlaw10.InstrAims', WHERE WHAT IT READS IS OF BULK AT MOST 1048576: true; the input reads as it did. -/
def instrAimsUptoRow : OpenClaim := { program := "ytcjeiafhcpgaoaa", sum := "c37c7f293e885b26f6e5d507f1c031285974534aadbc5e4b7ba04e1e8169bcd9", func := "gantlet/gantletlaw10.InstrAims", spec := "instrAims", apart := false, narrowed := true }
def InstrAimsUptoSaid : Prop := instrAimsUptoRow.holds Try.pinned (OpenSpec.upto instrAimsSpec)

/-- 'gantletlaw10.InstrForms', WHERE WHAT IT READS IS OF BULK AT MOST 1048576: true; the input reads as it did. -/
def instrFormsUptoRow : OpenClaim := { program := "ytcjeiafhcpgaoaa", sum := "c37c7f293e885b26f6e5d507f1c031285974534aadbc5e4b7ba04e1e8169bcd9", func := "gantlet/gantletlaw10.InstrForms", spec := "instrForms", apart := false, narrowed := true }
def InstrFormsUptoSaid : Prop := instrFormsUptoRow.holds Try.pinned (OpenSpec.upto instrFormsSpec)

end Rows
end Go.Proofs.Ytcjeiafhcpgaoaa
