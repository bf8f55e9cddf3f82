/-
  No cell of these rows narrows 'for every input' (looked for: loops, veiled, ifaces, maps, wideKeys, modest, calm, conditions, laid).
  DERIVED. THE GIVEN ROWS OF THIS SEAT. 8 by the template 'for every input the law returns true; each argument reads behind the call as it read before'; 0 by the template 'total and deterministic' (their statements: YtkdpambhdjinjaaTotals.lean).
  GIVEN WITH THE SEED: the statements are not yours to turn. If you find one false, say at which input.
  Laid BY PROGRAM, IN A SANDBOX (cutbox-rows.mjs): the forced cells as the released guide's own fill.sh prints them over the translation 4cff98ea7aa0377c… (all of the seat's roots in one cut). By AI agents, Wed Nov 11 2026. No macro, syntax, notation, axiom, sorry.
-/
import Derived.Test.YtkdpambhdjinjaaChecked
import GoSem.Claim
import GoSem.ClaimJoined
import GoSem.ClaimMapViews
import Derived.JoinedTies
import Derived.KernelRfl
namespace Go.Proofs.Ytkdpambhdjinjaa
/- THE CELL 'sum', in the pinned program and in every row, IS THE sha256 OF THE DUMP (.gsa) THAT YtkdpambhdjinjaaProg.lean LOADS. Nothing in Lean hashes anything: it is a label: what it is worth is what the hold of that sum in a sandbox is worth. -/
noncomputable def Try.pinned : Pinned := { name := "ytkdpambhdjinjaa", sum := "4cff98ea7aa0377c134c840afc636beeea4a263fb46ca85869a45abe2e628970", checked := Try.checked }
namespace Rows
def none {H : Type} : Left H := { results := [], args := [] }

/-- 'laws.FnExactHostValid': WHATEVER THE INPUT: true; the input reads as it did. -/
def fnExactHostValidSpec : ChangeSpec := { name := "fnExactHostValid", fn := fun _ => fun
  | [d] => { results := [.lit (.bool true)], args := [d] }
  | _ => none }
def fnExactHostValidRow : OpenClaim := { program := "ytkdpambhdjinjaa", sum := "4cff98ea7aa0377c134c840afc636beeea4a263fb46ca85869a45abe2e628970", func := "loop.example/feedbridge/laws.FnExactHostValid", spec := "fnExactHostValid", apart := false }
def FnExactHostValidSaid : Prop := fnExactHostValidRow.holds Try.pinned (OpenSpec.ofChange fnExactHostValidSpec)

/-- ITS FALSE NEIGHBOUR: 'it returns false'. Refute it at one input. -/
def fnExactHostValidWrong : ChangeSpec := { name := "fnExactHostValid", fn := fun _ => fun
  | [d] => { results := [.lit (.bool false)], args := [d] }
  | _ => none }
def FnExactHostValidWrongFalsely : Prop := fnExactHostValidRow.holds Try.pinned (OpenSpec.ofChange fnExactHostValidWrong)

/-- 'laws.FnExactMayTry': WHATEVER THE INPUT: true; the input reads as it did. -/
def fnExactMayTrySpec : ChangeSpec := { name := "fnExactMayTry", fn := fun _ => fun
  | [d1, d2] => { results := [.lit (.bool true)], args := [d1, d2] }
  | _ => none }
def fnExactMayTryRow : OpenClaim := { program := "ytkdpambhdjinjaa", sum := "4cff98ea7aa0377c134c840afc636beeea4a263fb46ca85869a45abe2e628970", func := "loop.example/feedbridge/laws.FnExactMayTry", spec := "fnExactMayTry", apart := false }
def FnExactMayTrySaid : Prop := fnExactMayTryRow.holds Try.pinned (OpenSpec.ofChange fnExactMayTrySpec)

/-- ITS FALSE NEIGHBOUR: 'it returns false'. Refute it at one input. -/
def fnExactMayTryWrong : ChangeSpec := { name := "fnExactMayTry", fn := fun _ => fun
  | [d1, d2] => { results := [.lit (.bool false)], args := [d1, d2] }
  | _ => none }
def FnExactMayTryWrongFalsely : Prop := fnExactMayTryRow.holds Try.pinned (OpenSpec.ofChange fnExactMayTryWrong)

/-- 'laws.FnHostValid': WHATEVER THE INPUT: true; the input reads as it did. -/
def fnHostValidSpec : ChangeSpec := { name := "fnHostValid", fn := fun _ => fun
  | [d] => { results := [.lit (.bool true)], args := [d] }
  | _ => none }
def fnHostValidRow : OpenClaim := { program := "ytkdpambhdjinjaa", sum := "4cff98ea7aa0377c134c840afc636beeea4a263fb46ca85869a45abe2e628970", func := "loop.example/feedbridge/laws.FnHostValid", spec := "fnHostValid", apart := false }
def FnHostValidSaid : Prop := fnHostValidRow.holds Try.pinned (OpenSpec.ofChange fnHostValidSpec)

/-- ITS FALSE NEIGHBOUR: 'it returns false'. Refute it at one input. -/
def fnHostValidWrong : ChangeSpec := { name := "fnHostValid", fn := fun _ => fun
  | [d] => { results := [.lit (.bool false)], args := [d] }
  | _ => none }
def FnHostValidWrongFalsely : Prop := fnHostValidRow.holds Try.pinned (OpenSpec.ofChange fnHostValidWrong)

/-- 'laws.FnMayTry': WHATEVER THE INPUT: true; the input reads as it did. -/
def fnMayTrySpec : ChangeSpec := { name := "fnMayTry", fn := fun _ => fun
  | [d] => { results := [.lit (.bool true)], args := [d] }
  | _ => none }
def fnMayTryRow : OpenClaim := { program := "ytkdpambhdjinjaa", sum := "4cff98ea7aa0377c134c840afc636beeea4a263fb46ca85869a45abe2e628970", func := "loop.example/feedbridge/laws.FnMayTry", spec := "fnMayTry", apart := false }
def FnMayTrySaid : Prop := fnMayTryRow.holds Try.pinned (OpenSpec.ofChange fnMayTrySpec)

/-- ITS FALSE NEIGHBOUR: 'it returns false'. Refute it at one input. -/
def fnMayTryWrong : ChangeSpec := { name := "fnMayTry", fn := fun _ => fun
  | [d] => { results := [.lit (.bool false)], args := [d] }
  | _ => none }
def FnMayTryWrongFalsely : Prop := fnMayTryRow.holds Try.pinned (OpenSpec.ofChange fnMayTryWrong)

/-- 'laws.FnExactHostStep': WHATEVER THE INPUT: true; the input reads as it did. -/
def fnExactHostStepSpec : ChangeSpec := { name := "fnExactHostStep", fn := fun _ => fun
  | [d1, d2, d3] => { results := [.lit (.bool true)], args := [d1, d2, d3] }
  | _ => none }
def fnExactHostStepRow : OpenClaim := { program := "ytkdpambhdjinjaa", sum := "4cff98ea7aa0377c134c840afc636beeea4a263fb46ca85869a45abe2e628970", func := "loop.example/feedbridge/laws.FnExactHostStep", spec := "fnExactHostStep", apart := false }
def FnExactHostStepSaid : Prop := fnExactHostStepRow.holds Try.pinned (OpenSpec.ofChange fnExactHostStepSpec)

/-- ITS FALSE NEIGHBOUR: 'it returns false'. Refute it at one input. -/
def fnExactHostStepWrong : ChangeSpec := { name := "fnExactHostStep", fn := fun _ => fun
  | [d1, d2, d3] => { results := [.lit (.bool false)], args := [d1, d2, d3] }
  | _ => none }
def FnExactHostStepWrongFalsely : Prop := fnExactHostStepRow.holds Try.pinned (OpenSpec.ofChange fnExactHostStepWrong)

/-- 'laws.FnHostStep': WHATEVER THE INPUT: true; the input reads as it did. -/
def fnHostStepSpec : ChangeSpec := { name := "fnHostStep", fn := fun _ => fun
  | [d] => { results := [.lit (.bool true)], args := [d] }
  | _ => none }
def fnHostStepRow : OpenClaim := { program := "ytkdpambhdjinjaa", sum := "4cff98ea7aa0377c134c840afc636beeea4a263fb46ca85869a45abe2e628970", func := "loop.example/feedbridge/laws.FnHostStep", spec := "fnHostStep", apart := false }
def FnHostStepSaid : Prop := fnHostStepRow.holds Try.pinned (OpenSpec.ofChange fnHostStepSpec)

/-- ITS FALSE NEIGHBOUR: 'it returns false'. Refute it at one input. -/
def fnHostStepWrong : ChangeSpec := { name := "fnHostStep", fn := fun _ => fun
  | [d] => { results := [.lit (.bool false)], args := [d] }
  | _ => none }
def FnHostStepWrongFalsely : Prop := fnHostStepRow.holds Try.pinned (OpenSpec.ofChange fnHostStepWrong)

/-- 'laws.FnHostRun': WHATEVER THE INPUT: true; the input reads as it did. -/
def fnHostRunSpec : ChangeSpec := { name := "fnHostRun", fn := fun _ => fun
  | [d] => { results := [.lit (.bool true)], args := [d] }
  | _ => none }
def fnHostRunRow : OpenClaim := { program := "ytkdpambhdjinjaa", sum := "4cff98ea7aa0377c134c840afc636beeea4a263fb46ca85869a45abe2e628970", func := "loop.example/feedbridge/laws.FnHostRun", spec := "fnHostRun", apart := false }
def FnHostRunSaid : Prop := fnHostRunRow.holds Try.pinned (OpenSpec.ofChange fnHostRunSpec)

/-- ITS FALSE NEIGHBOUR: 'it returns false'. Refute it at one input. -/
def fnHostRunWrong : ChangeSpec := { name := "fnHostRun", fn := fun _ => fun
  | [d] => { results := [.lit (.bool false)], args := [d] }
  | _ => none }
def FnHostRunWrongFalsely : Prop := fnHostRunRow.holds Try.pinned (OpenSpec.ofChange fnHostRunWrong)

/-- 'laws.FnExactHostRun': WHATEVER THE INPUT: true; the input reads as it did. -/
def fnExactHostRunSpec : ChangeSpec := { name := "fnExactHostRun", fn := fun _ => fun
  | [d1, d2, d3] => { results := [.lit (.bool true)], args := [d1, d2, d3] }
  | _ => none }
def fnExactHostRunRow : OpenClaim := { program := "ytkdpambhdjinjaa", sum := "4cff98ea7aa0377c134c840afc636beeea4a263fb46ca85869a45abe2e628970", func := "loop.example/feedbridge/laws.FnExactHostRun", spec := "fnExactHostRun", apart := false }
def FnExactHostRunSaid : Prop := fnExactHostRunRow.holds Try.pinned (OpenSpec.ofChange fnExactHostRunSpec)

/-- ITS FALSE NEIGHBOUR: 'it returns false'. Refute it at one input. -/
def fnExactHostRunWrong : ChangeSpec := { name := "fnExactHostRun", fn := fun _ => fun
  | [d1, d2, d3] => { results := [.lit (.bool false)], args := [d1, d2, d3] }
  | _ => none }
def FnExactHostRunWrongFalsely : Prop := fnExactHostRunRow.holds Try.pinned (OpenSpec.ofChange fnExactHostRunWrong)

/- THE SECOND FORM. 'bulk': how many values and letters a reading holds, each counted each time it is reached (what is shared counts as often as it is met; a slice's spare places count too). A statement '..UptoSaid' is the law's where the arguments, and the package variables that the reading takes, are together of bulk at most 1048576: NARROWER than '..Said'. Prove '..Said' where nothing that the law and all that it calls make is longer than what came in: it says more and counts as full. Else prove '..UptoSaid'. A law counts once. -/
mutual
def uptoBulk {H : Type} : DataW H → Nat
  | .lit (.string bytes) => bytes.length + 1
  | .lit _ => 1
  | .nil => 1
  | .ptr d => uptoBulk d + 1
  | .slice elems spare => uptoBulkAll elems + uptoBulkAll spare + 1
  | .agg parts => uptoBulkAll parts + 1
  | .iface _ d => uptoBulk d + 1
  | .map entries => uptoBulkEntries entries + 1
  | .held _ => 1
def uptoBulkAll {H : Type} : List (DataW H) → Nat
  | [] => 0
  | d :: r => uptoBulk d + uptoBulkAll r
def uptoBulkEntries {H : Type} : List (Lit × DataW H) → Nat
  | [] => 0
  | x :: r => uptoBulkEntry x + uptoBulkEntries r
def uptoBulkEntry {H : Type} : Lit × DataW H → Nat
  | (.string bytes, d) => bytes.length + uptoBulk d + 1
  | (_, d) => uptoBulk d + 1
 end
def uptoSmall : (H : Type) → List (DataW H) → Bool := fun _ ds => decide (uptoBulkAll ds ≤ 1048576)
def OpenSpec.upto (s : _root_.Go.ChangeSpec) : _root_.Go.OpenSpec := { _root_.Go.OpenSpec.ofChange s with cond := some uptoSmall }

/-- 'laws.FnExactHostValid', WHERE WHAT IT READS IS OF BULK AT MOST 1048576: true; the input reads as it did. -/
def fnExactHostValidUptoRow : OpenClaim := { program := "ytkdpambhdjinjaa", sum := "4cff98ea7aa0377c134c840afc636beeea4a263fb46ca85869a45abe2e628970", func := "loop.example/feedbridge/laws.FnExactHostValid", spec := "fnExactHostValid", apart := false, narrowed := true }
def FnExactHostValidUptoSaid : Prop := fnExactHostValidUptoRow.holds Try.pinned (OpenSpec.upto fnExactHostValidSpec)

/-- 'laws.FnExactMayTry', WHERE WHAT IT READS IS OF BULK AT MOST 1048576: true; the input reads as it did. -/
def fnExactMayTryUptoRow : OpenClaim := { program := "ytkdpambhdjinjaa", sum := "4cff98ea7aa0377c134c840afc636beeea4a263fb46ca85869a45abe2e628970", func := "loop.example/feedbridge/laws.FnExactMayTry", spec := "fnExactMayTry", apart := false, narrowed := true }
def FnExactMayTryUptoSaid : Prop := fnExactMayTryUptoRow.holds Try.pinned (OpenSpec.upto fnExactMayTrySpec)

/-- 'laws.FnHostValid', WHERE WHAT IT READS IS OF BULK AT MOST 1048576: true; the input reads as it did. -/
def fnHostValidUptoRow : OpenClaim := { program := "ytkdpambhdjinjaa", sum := "4cff98ea7aa0377c134c840afc636beeea4a263fb46ca85869a45abe2e628970", func := "loop.example/feedbridge/laws.FnHostValid", spec := "fnHostValid", apart := false, narrowed := true }
def FnHostValidUptoSaid : Prop := fnHostValidUptoRow.holds Try.pinned (OpenSpec.upto fnHostValidSpec)

/-- 'laws.FnMayTry', WHERE WHAT IT READS IS OF BULK AT MOST 1048576: true; the input reads as it did. -/
def fnMayTryUptoRow : OpenClaim := { program := "ytkdpambhdjinjaa", sum := "4cff98ea7aa0377c134c840afc636beeea4a263fb46ca85869a45abe2e628970", func := "loop.example/feedbridge/laws.FnMayTry", spec := "fnMayTry", apart := false, narrowed := true }
def FnMayTryUptoSaid : Prop := fnMayTryUptoRow.holds Try.pinned (OpenSpec.upto fnMayTrySpec)

/-- 'laws.FnExactHostStep', WHERE WHAT IT READS IS OF BULK AT MOST 1048576: true; the input reads as it did. -/
def fnExactHostStepUptoRow : OpenClaim := { program := "ytkdpambhdjinjaa", sum := "4cff98ea7aa0377c134c840afc636beeea4a263fb46ca85869a45abe2e628970", func := "loop.example/feedbridge/laws.FnExactHostStep", spec := "fnExactHostStep", apart := false, narrowed := true }
def FnExactHostStepUptoSaid : Prop := fnExactHostStepUptoRow.holds Try.pinned (OpenSpec.upto fnExactHostStepSpec)

/-- 'laws.FnHostStep', WHERE WHAT IT READS IS OF BULK AT MOST 1048576: true; the input reads as it did. -/
def fnHostStepUptoRow : OpenClaim := { program := "ytkdpambhdjinjaa", sum := "4cff98ea7aa0377c134c840afc636beeea4a263fb46ca85869a45abe2e628970", func := "loop.example/feedbridge/laws.FnHostStep", spec := "fnHostStep", apart := false, narrowed := true }
def FnHostStepUptoSaid : Prop := fnHostStepUptoRow.holds Try.pinned (OpenSpec.upto fnHostStepSpec)

/-- 'laws.FnHostRun', WHERE WHAT IT READS IS OF BULK AT MOST 1048576: true; the input reads as it did. -/
def fnHostRunUptoRow : OpenClaim := { program := "ytkdpambhdjinjaa", sum := "4cff98ea7aa0377c134c840afc636beeea4a263fb46ca85869a45abe2e628970", func := "loop.example/feedbridge/laws.FnHostRun", spec := "fnHostRun", apart := false, narrowed := true }
def FnHostRunUptoSaid : Prop := fnHostRunUptoRow.holds Try.pinned (OpenSpec.upto fnHostRunSpec)

/-- 'laws.FnExactHostRun', WHERE WHAT IT READS IS OF BULK AT MOST 1048576: true; the input reads as it did. -/
def fnExactHostRunUptoRow : OpenClaim := { program := "ytkdpambhdjinjaa", sum := "4cff98ea7aa0377c134c840afc636beeea4a263fb46ca85869a45abe2e628970", func := "loop.example/feedbridge/laws.FnExactHostRun", spec := "fnExactHostRun", apart := false, narrowed := true }
def FnExactHostRunUptoSaid : Prop := fnExactHostRunUptoRow.holds Try.pinned (OpenSpec.upto fnExactHostRunSpec)

end Rows
end Go.Proofs.Ytkdpambhdjinjaa
