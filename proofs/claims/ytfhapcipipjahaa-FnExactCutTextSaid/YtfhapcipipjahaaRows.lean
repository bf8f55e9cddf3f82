/-
  No cell of these rows narrows 'for every input' (looked for: loops, veiled, ifaces, maps, wideKeys, modest, calm, conditions, laid).
  DERIVED. THE GIVEN ROWS OF THIS SEAT. 2 by the template 'for every input the law returns true; each argument reads behind the call as it read before'; 0 by the template 'total and deterministic' (their statements: YtfhapcipipjahaaTotals.lean).
  GIVEN WITH THE SEED: the statements are not yours to turn. If you find one false, say at which input.
  Laid BY PROGRAM, IN A SANDBOX (cutbox-rows.mjs): the forced cells as the released guide's own fill.sh prints them over the translation 5a495a889d3c7ba7… (all of the seat's roots in one cut). By AI agents, Wed Nov 11 2026. No macro, syntax, notation, axiom, sorry.
-/
import Derived.Test.YtfhapcipipjahaaChecked
import GoSem.Claim
import GoSem.ClaimJoined
import GoSem.ClaimMapViews
import Derived.JoinedTies
import Derived.KernelRfl
namespace Go.Proofs.Ytfhapcipipjahaa
/- THE CELL 'sum', in the pinned program and in every row, IS THE sha256 OF THE DUMP (.gsa) THAT YtfhapcipipjahaaProg.lean LOADS. Nothing in Lean hashes anything: it is a label: what it is worth is what the hold of that sum in a sandbox is worth. -/
noncomputable def Try.pinned : Pinned := { name := "ytfhapcipipjahaa", sum := "5a495a889d3c7ba77598d97cfcdd4dec6c26b040a118f19a413c0c4cdd78ec35", checked := Try.checked }
namespace Rows
def none {H : Type} : Left H := { results := [], args := [] }

/-- 'laws.FnExactFirstSentence': WHATEVER THE INPUT: true; the input reads as it did. -/
def fnExactFirstSentenceSpec : ChangeSpec := { name := "fnExactFirstSentence", fn := fun _ => fun
  | [d] => { results := [.lit (.bool true)], args := [d] }
  | _ => none }
def fnExactFirstSentenceRow : OpenClaim := { program := "ytfhapcipipjahaa", sum := "5a495a889d3c7ba77598d97cfcdd4dec6c26b040a118f19a413c0c4cdd78ec35", func := "loop.example/feedbridge/laws.FnExactFirstSentence", spec := "fnExactFirstSentence", apart := false }
def FnExactFirstSentenceSaid : Prop := fnExactFirstSentenceRow.holds Try.pinned (OpenSpec.ofChange fnExactFirstSentenceSpec)

/-- ITS FALSE NEIGHBOUR: 'it returns false'. Refute it at one input. -/
def fnExactFirstSentenceWrong : ChangeSpec := { name := "fnExactFirstSentence", fn := fun _ => fun
  | [d] => { results := [.lit (.bool false)], args := [d] }
  | _ => none }
def FnExactFirstSentenceWrongFalsely : Prop := fnExactFirstSentenceRow.holds Try.pinned (OpenSpec.ofChange fnExactFirstSentenceWrong)

/-- 'laws.FnExactCutText': WHATEVER THE INPUT: true; the input reads as it did. -/
def fnExactCutTextSpec : ChangeSpec := { name := "fnExactCutText", fn := fun _ => fun
  | [d1, d2] => { results := [.lit (.bool true)], args := [d1, d2] }
  | _ => none }
def fnExactCutTextRow : OpenClaim := { program := "ytfhapcipipjahaa", sum := "5a495a889d3c7ba77598d97cfcdd4dec6c26b040a118f19a413c0c4cdd78ec35", func := "loop.example/feedbridge/laws.FnExactCutText", spec := "fnExactCutText", apart := false }
def FnExactCutTextSaid : Prop := fnExactCutTextRow.holds Try.pinned (OpenSpec.ofChange fnExactCutTextSpec)

/-- ITS FALSE NEIGHBOUR: 'it returns false'. Refute it at one input. -/
def fnExactCutTextWrong : ChangeSpec := { name := "fnExactCutText", fn := fun _ => fun
  | [d1, d2] => { results := [.lit (.bool false)], args := [d1, d2] }
  | _ => none }
def FnExactCutTextWrongFalsely : Prop := fnExactCutTextRow.holds Try.pinned (OpenSpec.ofChange fnExactCutTextWrong)

/- THE SECOND FORM. 'bulk': how many values and letters a reading holds, each counted each time it is reached (what is shared counts as often as it is met; a slice's spare places count too). A statement '..UptoSaid' is the law's where the arguments, and the package variables that the reading takes, are together of bulk at most 1048576: NARROWER than '..Said'. Prove '..Said' where nothing that the law and all that it calls make is longer than what came in: it says more and counts as full. Else prove '..UptoSaid'. A law counts once. -/
mutual
def uptoBulk {H : Type} : DataW H → Nat
  | .lit (.string bytes) => bytes.length + 1
  | .lit _ => 1
  | .nil => 1
  | .ptr d => uptoBulk d + 1
  | .slice elems spare => uptoBulkAll elems + uptoBulkAll spare + 1
  | .agg parts => uptoBulkAll parts + 1
  | .iface _ d => uptoBulk d + 1
  | .map entries => uptoBulkEntries entries + 1
  | .held _ => 1
def uptoBulkAll {H : Type} : List (DataW H) → Nat
  | [] => 0
  | d :: r => uptoBulk d + uptoBulkAll r
def uptoBulkEntries {H : Type} : List (Lit × DataW H) → Nat
  | [] => 0
  | x :: r => uptoBulkEntry x + uptoBulkEntries r
def uptoBulkEntry {H : Type} : Lit × DataW H → Nat
  | (.string bytes, d) => bytes.length + uptoBulk d + 1
  | (_, d) => uptoBulk d + 1
 end
def uptoSmall : (H : Type) → List (DataW H) → Bool := fun _ ds => decide (uptoBulkAll ds ≤ 1048576)
def OpenSpec.upto (s : _root_.Go.ChangeSpec) : _root_.Go.OpenSpec := { _root_.Go.OpenSpec.ofChange s with cond := some uptoSmall }

/-- 'laws.FnExactFirstSentence', WHERE WHAT IT READS IS OF BULK AT MOST 1048576: true; the input reads as it did. -/
def fnExactFirstSentenceUptoRow : OpenClaim := { program := "ytfhapcipipjahaa", sum := "5a495a889d3c7ba77598d97cfcdd4dec6c26b040a118f19a413c0c4cdd78ec35", func := "loop.example/feedbridge/laws.FnExactFirstSentence", spec := "fnExactFirstSentence", apart := false, narrowed := true }
def FnExactFirstSentenceUptoSaid : Prop := fnExactFirstSentenceUptoRow.holds Try.pinned (OpenSpec.upto fnExactFirstSentenceSpec)

/-- 'laws.FnExactCutText', WHERE WHAT IT READS IS OF BULK AT MOST 1048576: true; the input reads as it did. -/
def fnExactCutTextUptoRow : OpenClaim := { program := "ytfhapcipipjahaa", sum := "5a495a889d3c7ba77598d97cfcdd4dec6c26b040a118f19a413c0c4cdd78ec35", func := "loop.example/feedbridge/laws.FnExactCutText", spec := "fnExactCutText", apart := false, narrowed := true }
def FnExactCutTextUptoSaid : Prop := fnExactCutTextUptoRow.holds Try.pinned (OpenSpec.upto fnExactCutTextSpec)

end Rows
end Go.Proofs.Ytfhapcipipjahaa
