/-
  No cell of these rows narrows 'for every input' (looked for: loops, veiled, ifaces, maps, wideKeys, modest, calm, conditions, laid).
  DERIVED. THE GIVEN ROWS OF THIS SEAT. 8 by the template 'for every input the law returns true; each argument reads behind the call as it read before'; 0 by the template 'total and deterministic' (their statements: YtgbbobpakjlddaaTotals.lean).
  GIVEN WITH THE SEED: the statements are not yours to turn. If you find one false, say at which input.
  Laid BY PROGRAM, IN A SANDBOX (cutbox-rows.mjs): the forced cells as the released guide's own fill.sh prints them over the translation 7eade3ee2fd87d34… (all of the seat's roots in one cut). By AI agents, Wed Nov 11 2026. No macro, syntax, notation, axiom, sorry.
-/
import Derived.Test.YtgbbobpakjlddaaChecked
import GoSem.Claim
import GoSem.ClaimJoined
import GoSem.ClaimMapViews
import Derived.JoinedTies
import Derived.KernelRfl
namespace Go.Proofs.Ytgbbobpakjlddaa
/- THE CELL 'sum', in the pinned program and in every row, IS THE sha256 OF THE DUMP (.gsa) THAT YtgbbobpakjlddaaProg.lean LOADS. Nothing in Lean hashes anything: it is a label: what it is worth is what the hold of that sum in a sandbox is worth. -/
noncomputable def Try.pinned : Pinned := { name := "ytgbbobpakjlddaa", sum := "7eade3ee2fd87d34d2e826282ee36418d75435b0e240ac3e4f1aec8a3cacd92b", checked := Try.checked }
namespace Rows
def none {H : Type} : Left H := { results := [], args := [] }

/-- 'laws.FnExactKeptValid': WHATEVER THE INPUT: true; the input reads as it did. -/
def fnExactKeptValidSpec : ChangeSpec := { name := "fnExactKeptValid", fn := fun _ => fun
  | [d] => { results := [.lit (.bool true)], args := [d] }
  | _ => none }
def fnExactKeptValidRow : OpenClaim := { program := "ytgbbobpakjlddaa", sum := "7eade3ee2fd87d34d2e826282ee36418d75435b0e240ac3e4f1aec8a3cacd92b", func := "loop.example/feedbridge/laws.FnExactKeptValid", spec := "fnExactKeptValid", apart := false }
def FnExactKeptValidSaid : Prop := fnExactKeptValidRow.holds Try.pinned (OpenSpec.ofChange fnExactKeptValidSpec)

/-- ITS FALSE NEIGHBOUR: 'it returns false'. Refute it at one input. -/
def fnExactKeptValidWrong : ChangeSpec := { name := "fnExactKeptValid", fn := fun _ => fun
  | [d] => { results := [.lit (.bool false)], args := [d] }
  | _ => none }
def FnExactKeptValidWrongFalsely : Prop := fnExactKeptValidRow.holds Try.pinned (OpenSpec.ofChange fnExactKeptValidWrong)

/-- 'laws.FnExactFetchCode': WHATEVER THE INPUT: true; the input reads as it did. -/
def fnExactFetchCodeSpec : ChangeSpec := { name := "fnExactFetchCode", fn := fun _ => fun
  | [d1, d2, d3] => { results := [.lit (.bool true)], args := [d1, d2, d3] }
  | _ => none }
def fnExactFetchCodeRow : OpenClaim := { program := "ytgbbobpakjlddaa", sum := "7eade3ee2fd87d34d2e826282ee36418d75435b0e240ac3e4f1aec8a3cacd92b", func := "loop.example/feedbridge/laws.FnExactFetchCode", spec := "fnExactFetchCode", apart := false }
def FnExactFetchCodeSaid : Prop := fnExactFetchCodeRow.holds Try.pinned (OpenSpec.ofChange fnExactFetchCodeSpec)

/-- ITS FALSE NEIGHBOUR: 'it returns false'. Refute it at one input. -/
def fnExactFetchCodeWrong : ChangeSpec := { name := "fnExactFetchCode", fn := fun _ => fun
  | [d1, d2, d3] => { results := [.lit (.bool false)], args := [d1, d2, d3] }
  | _ => none }
def FnExactFetchCodeWrongFalsely : Prop := fnExactFetchCodeRow.holds Try.pinned (OpenSpec.ofChange fnExactFetchCodeWrong)

/-- 'laws.FnExactKeepFetch': WHATEVER THE INPUT: true; the input reads as it did. -/
def fnExactKeepFetchSpec : ChangeSpec := { name := "fnExactKeepFetch", fn := fun _ => fun
  | [d1, d2, d3, d4] => { results := [.lit (.bool true)], args := [d1, d2, d3, d4] }
  | _ => none }
def fnExactKeepFetchRow : OpenClaim := { program := "ytgbbobpakjlddaa", sum := "7eade3ee2fd87d34d2e826282ee36418d75435b0e240ac3e4f1aec8a3cacd92b", func := "loop.example/feedbridge/laws.FnExactKeepFetch", spec := "fnExactKeepFetch", apart := false }
def FnExactKeepFetchSaid : Prop := fnExactKeepFetchRow.holds Try.pinned (OpenSpec.ofChange fnExactKeepFetchSpec)

/-- ITS FALSE NEIGHBOUR: 'it returns false'. Refute it at one input. -/
def fnExactKeepFetchWrong : ChangeSpec := { name := "fnExactKeepFetch", fn := fun _ => fun
  | [d1, d2, d3, d4] => { results := [.lit (.bool false)], args := [d1, d2, d3, d4] }
  | _ => none }
def FnExactKeepFetchWrongFalsely : Prop := fnExactKeepFetchRow.holds Try.pinned (OpenSpec.ofChange fnExactKeepFetchWrong)

/-- 'laws.FnExactFetchRun': WHATEVER THE INPUT: true; the input reads as it did. -/
def fnExactFetchRunSpec : ChangeSpec := { name := "fnExactFetchRun", fn := fun _ => fun
  | [d1, d2, d3] => { results := [.lit (.bool true)], args := [d1, d2, d3] }
  | _ => none }
def fnExactFetchRunRow : OpenClaim := { program := "ytgbbobpakjlddaa", sum := "7eade3ee2fd87d34d2e826282ee36418d75435b0e240ac3e4f1aec8a3cacd92b", func := "loop.example/feedbridge/laws.FnExactFetchRun", spec := "fnExactFetchRun", apart := false }
def FnExactFetchRunSaid : Prop := fnExactFetchRunRow.holds Try.pinned (OpenSpec.ofChange fnExactFetchRunSpec)

/-- ITS FALSE NEIGHBOUR: 'it returns false'. Refute it at one input. -/
def fnExactFetchRunWrong : ChangeSpec := { name := "fnExactFetchRun", fn := fun _ => fun
  | [d1, d2, d3] => { results := [.lit (.bool false)], args := [d1, d2, d3] }
  | _ => none }
def FnExactFetchRunWrongFalsely : Prop := fnExactFetchRunRow.holds Try.pinned (OpenSpec.ofChange fnExactFetchRunWrong)

/-- 'laws.FnKeptValid': WHATEVER THE INPUT: true; the input reads as it did. -/
def fnKeptValidSpec : ChangeSpec := { name := "fnKeptValid", fn := fun _ => fun
  | [d] => { results := [.lit (.bool true)], args := [d] }
  | _ => none }
def fnKeptValidRow : OpenClaim := { program := "ytgbbobpakjlddaa", sum := "7eade3ee2fd87d34d2e826282ee36418d75435b0e240ac3e4f1aec8a3cacd92b", func := "loop.example/feedbridge/laws.FnKeptValid", spec := "fnKeptValid", apart := false }
def FnKeptValidSaid : Prop := fnKeptValidRow.holds Try.pinned (OpenSpec.ofChange fnKeptValidSpec)

/-- ITS FALSE NEIGHBOUR: 'it returns false'. Refute it at one input. -/
def fnKeptValidWrong : ChangeSpec := { name := "fnKeptValid", fn := fun _ => fun
  | [d] => { results := [.lit (.bool false)], args := [d] }
  | _ => none }
def FnKeptValidWrongFalsely : Prop := fnKeptValidRow.holds Try.pinned (OpenSpec.ofChange fnKeptValidWrong)

/-- 'laws.FnFetchCode': WHATEVER THE INPUT: true; the input reads as it did. -/
def fnFetchCodeSpec : ChangeSpec := { name := "fnFetchCode", fn := fun _ => fun
  | [d] => { results := [.lit (.bool true)], args := [d] }
  | _ => none }
def fnFetchCodeRow : OpenClaim := { program := "ytgbbobpakjlddaa", sum := "7eade3ee2fd87d34d2e826282ee36418d75435b0e240ac3e4f1aec8a3cacd92b", func := "loop.example/feedbridge/laws.FnFetchCode", spec := "fnFetchCode", apart := false }
def FnFetchCodeSaid : Prop := fnFetchCodeRow.holds Try.pinned (OpenSpec.ofChange fnFetchCodeSpec)

/-- ITS FALSE NEIGHBOUR: 'it returns false'. Refute it at one input. -/
def fnFetchCodeWrong : ChangeSpec := { name := "fnFetchCode", fn := fun _ => fun
  | [d] => { results := [.lit (.bool false)], args := [d] }
  | _ => none }
def FnFetchCodeWrongFalsely : Prop := fnFetchCodeRow.holds Try.pinned (OpenSpec.ofChange fnFetchCodeWrong)

/-- 'laws.FnKeepFetch': WHATEVER THE INPUT: true; the input reads as it did. -/
def fnKeepFetchSpec : ChangeSpec := { name := "fnKeepFetch", fn := fun _ => fun
  | [d] => { results := [.lit (.bool true)], args := [d] }
  | _ => none }
def fnKeepFetchRow : OpenClaim := { program := "ytgbbobpakjlddaa", sum := "7eade3ee2fd87d34d2e826282ee36418d75435b0e240ac3e4f1aec8a3cacd92b", func := "loop.example/feedbridge/laws.FnKeepFetch", spec := "fnKeepFetch", apart := false }
def FnKeepFetchSaid : Prop := fnKeepFetchRow.holds Try.pinned (OpenSpec.ofChange fnKeepFetchSpec)

/-- ITS FALSE NEIGHBOUR: 'it returns false'. Refute it at one input. -/
def fnKeepFetchWrong : ChangeSpec := { name := "fnKeepFetch", fn := fun _ => fun
  | [d] => { results := [.lit (.bool false)], args := [d] }
  | _ => none }
def FnKeepFetchWrongFalsely : Prop := fnKeepFetchRow.holds Try.pinned (OpenSpec.ofChange fnKeepFetchWrong)

/-- 'laws.FnFetchRun': WHATEVER THE INPUT: true; the input reads as it did. -/
def fnFetchRunSpec : ChangeSpec := { name := "fnFetchRun", fn := fun _ => fun
  | [d] => { results := [.lit (.bool true)], args := [d] }
  | _ => none }
def fnFetchRunRow : OpenClaim := { program := "ytgbbobpakjlddaa", sum := "7eade3ee2fd87d34d2e826282ee36418d75435b0e240ac3e4f1aec8a3cacd92b", func := "loop.example/feedbridge/laws.FnFetchRun", spec := "fnFetchRun", apart := false }
def FnFetchRunSaid : Prop := fnFetchRunRow.holds Try.pinned (OpenSpec.ofChange fnFetchRunSpec)

/-- ITS FALSE NEIGHBOUR: 'it returns false'. Refute it at one input. -/
def fnFetchRunWrong : ChangeSpec := { name := "fnFetchRun", fn := fun _ => fun
  | [d] => { results := [.lit (.bool false)], args := [d] }
  | _ => none }
def FnFetchRunWrongFalsely : Prop := fnFetchRunRow.holds Try.pinned (OpenSpec.ofChange fnFetchRunWrong)

/- THE SECOND FORM. 'bulk': how many values and letters a reading holds, each counted each time it is reached (what is shared counts as often as it is met; a slice's spare places count too). A statement '..UptoSaid' is the law's where the arguments, and the package variables that the reading takes, are together of bulk at most 1048576: NARROWER than '..Said'. Prove '..Said' where nothing that the law and all that it calls make is longer than what came in: it says more and counts as full. Else prove '..UptoSaid'. A law counts once. -/
mutual
def uptoBulk {H : Type} : DataW H → Nat
  | .lit (.string bytes) => bytes.length + 1
  | .lit _ => 1
  | .nil => 1
  | .ptr d => uptoBulk d + 1
  | .slice elems spare => uptoBulkAll elems + uptoBulkAll spare + 1
  | .agg parts => uptoBulkAll parts + 1
  | .iface _ d => uptoBulk d + 1
  | .map entries => uptoBulkEntries entries + 1
  | .held _ => 1
def uptoBulkAll {H : Type} : List (DataW H) → Nat
  | [] => 0
  | d :: r => uptoBulk d + uptoBulkAll r
def uptoBulkEntries {H : Type} : List (Lit × DataW H) → Nat
  | [] => 0
  | x :: r => uptoBulkEntry x + uptoBulkEntries r
def uptoBulkEntry {H : Type} : Lit × DataW H → Nat
  | (.string bytes, d) => bytes.length + uptoBulk d + 1
  | (_, d) => uptoBulk d + 1
 end
def uptoSmall : (H : Type) → List (DataW H) → Bool := fun _ ds => decide (uptoBulkAll ds ≤ 1048576)
def OpenSpec.upto (s : _root_.Go.ChangeSpec) : _root_.Go.OpenSpec := { _root_.Go.OpenSpec.ofChange s with cond := some uptoSmall }

/-- 'laws.FnExactKeptValid', WHERE WHAT IT READS IS OF BULK AT MOST 1048576: true; the input reads as it did. -/
def fnExactKeptValidUptoRow : OpenClaim := { program := "ytgbbobpakjlddaa", sum := "7eade3ee2fd87d34d2e826282ee36418d75435b0e240ac3e4f1aec8a3cacd92b", func := "loop.example/feedbridge/laws.FnExactKeptValid", spec := "fnExactKeptValid", apart := false, narrowed := true }
def FnExactKeptValidUptoSaid : Prop := fnExactKeptValidUptoRow.holds Try.pinned (OpenSpec.upto fnExactKeptValidSpec)

/-- 'laws.FnExactFetchCode', WHERE WHAT IT READS IS OF BULK AT MOST 1048576: true; the input reads as it did. -/
def fnExactFetchCodeUptoRow : OpenClaim := { program := "ytgbbobpakjlddaa", sum := "7eade3ee2fd87d34d2e826282ee36418d75435b0e240ac3e4f1aec8a3cacd92b", func := "loop.example/feedbridge/laws.FnExactFetchCode", spec := "fnExactFetchCode", apart := false, narrowed := true }
def FnExactFetchCodeUptoSaid : Prop := fnExactFetchCodeUptoRow.holds Try.pinned (OpenSpec.upto fnExactFetchCodeSpec)

/-- 'laws.FnExactKeepFetch', WHERE WHAT IT READS IS OF BULK AT MOST 1048576: true; the input reads as it did. -/
def fnExactKeepFetchUptoRow : OpenClaim := { program := "ytgbbobpakjlddaa", sum := "7eade3ee2fd87d34d2e826282ee36418d75435b0e240ac3e4f1aec8a3cacd92b", func := "loop.example/feedbridge/laws.FnExactKeepFetch", spec := "fnExactKeepFetch", apart := false, narrowed := true }
def FnExactKeepFetchUptoSaid : Prop := fnExactKeepFetchUptoRow.holds Try.pinned (OpenSpec.upto fnExactKeepFetchSpec)

/-- 'laws.FnExactFetchRun', WHERE WHAT IT READS IS OF BULK AT MOST 1048576: true; the input reads as it did. -/
def fnExactFetchRunUptoRow : OpenClaim := { program := "ytgbbobpakjlddaa", sum := "7eade3ee2fd87d34d2e826282ee36418d75435b0e240ac3e4f1aec8a3cacd92b", func := "loop.example/feedbridge/laws.FnExactFetchRun", spec := "fnExactFetchRun", apart := false, narrowed := true }
def FnExactFetchRunUptoSaid : Prop := fnExactFetchRunUptoRow.holds Try.pinned (OpenSpec.upto fnExactFetchRunSpec)

/-- 'laws.FnKeptValid', WHERE WHAT IT READS IS OF BULK AT MOST 1048576: true; the input reads as it did. -/
def fnKeptValidUptoRow : OpenClaim := { program := "ytgbbobpakjlddaa", sum := "7eade3ee2fd87d34d2e826282ee36418d75435b0e240ac3e4f1aec8a3cacd92b", func := "loop.example/feedbridge/laws.FnKeptValid", spec := "fnKeptValid", apart := false, narrowed := true }
def FnKeptValidUptoSaid : Prop := fnKeptValidUptoRow.holds Try.pinned (OpenSpec.upto fnKeptValidSpec)

/-- 'laws.FnFetchCode', WHERE WHAT IT READS IS OF BULK AT MOST 1048576: true; the input reads as it did. -/
def fnFetchCodeUptoRow : OpenClaim := { program := "ytgbbobpakjlddaa", sum := "7eade3ee2fd87d34d2e826282ee36418d75435b0e240ac3e4f1aec8a3cacd92b", func := "loop.example/feedbridge/laws.FnFetchCode", spec := "fnFetchCode", apart := false, narrowed := true }
def FnFetchCodeUptoSaid : Prop := fnFetchCodeUptoRow.holds Try.pinned (OpenSpec.upto fnFetchCodeSpec)

/-- 'laws.FnKeepFetch', WHERE WHAT IT READS IS OF BULK AT MOST 1048576: true; the input reads as it did. -/
def fnKeepFetchUptoRow : OpenClaim := { program := "ytgbbobpakjlddaa", sum := "7eade3ee2fd87d34d2e826282ee36418d75435b0e240ac3e4f1aec8a3cacd92b", func := "loop.example/feedbridge/laws.FnKeepFetch", spec := "fnKeepFetch", apart := false, narrowed := true }
def FnKeepFetchUptoSaid : Prop := fnKeepFetchUptoRow.holds Try.pinned (OpenSpec.upto fnKeepFetchSpec)

/-- 'laws.FnFetchRun', WHERE WHAT IT READS IS OF BULK AT MOST 1048576: true; the input reads as it did. -/
def fnFetchRunUptoRow : OpenClaim := { program := "ytgbbobpakjlddaa", sum := "7eade3ee2fd87d34d2e826282ee36418d75435b0e240ac3e4f1aec8a3cacd92b", func := "loop.example/feedbridge/laws.FnFetchRun", spec := "fnFetchRun", apart := false, narrowed := true }
def FnFetchRunUptoSaid : Prop := fnFetchRunUptoRow.holds Try.pinned (OpenSpec.upto fnFetchRunSpec)

end Rows
end Go.Proofs.Ytgbbobpakjlddaa
