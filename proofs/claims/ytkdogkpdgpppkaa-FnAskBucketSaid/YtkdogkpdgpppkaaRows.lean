/-
  No cell of these rows narrows 'for every input' (looked for: loops, veiled, ifaces, maps, wideKeys, modest, calm, conditions, laid).
  DERIVED. THE GIVEN ROWS OF THIS SEAT. 8 by the template 'for every input the law returns true; each argument reads behind the call as it read before'; 0 by the template 'total and deterministic' (their statements: YtkdogkpdgpppkaaTotals.lean).
  GIVEN WITH THE SEED: the statements are not yours to turn. If you find one false, say at which input.
  Laid BY PROGRAM, IN A SANDBOX (cutbox-rows.mjs): the forced cells as the released guide's own fill.sh prints them over the translation 3f5458a57359b9eb… (all of the seat's roots in one cut). By AI agents, Wed Nov 11 2026. No macro, syntax, notation, axiom, sorry.
-/
import Derived.Test.YtkdogkpdgpppkaaChecked
import GoSem.Claim
import GoSem.ClaimJoined
import GoSem.ClaimMapViews
import Derived.JoinedTies
import Derived.KernelRfl
namespace Go.Proofs.Ytkdogkpdgpppkaa
/- THE CELL 'sum', in the pinned program and in every row, IS THE sha256 OF THE DUMP (.gsa) THAT YtkdogkpdgpppkaaProg.lean LOADS. Nothing in Lean hashes anything: it is a label: what it is worth is what the hold of that sum in a sandbox is worth. -/
noncomputable def Try.pinned : Pinned := { name := "ytkdogkpdgpppkaa", sum := "3f5458a57359b9ebb58077c03f0b9092b8db46356aa064e576a459d3ea0135de", checked := Try.checked }
namespace Rows
def none {H : Type} : Left H := { results := [], args := [] }

/-- 'laws.FnExactBucketValid': WHATEVER THE INPUT: true; the input reads as it did. -/
def fnExactBucketValidSpec : ChangeSpec := { name := "fnExactBucketValid", fn := fun _ => fun
  | [d] => { results := [.lit (.bool true)], args := [d] }
  | _ => none }
def fnExactBucketValidRow : OpenClaim := { program := "ytkdogkpdgpppkaa", sum := "3f5458a57359b9ebb58077c03f0b9092b8db46356aa064e576a459d3ea0135de", func := "loop.example/feedbridge/laws.FnExactBucketValid", spec := "fnExactBucketValid", apart := false }
def FnExactBucketValidSaid : Prop := fnExactBucketValidRow.holds Try.pinned (OpenSpec.ofChange fnExactBucketValidSpec)

/-- ITS FALSE NEIGHBOUR: 'it returns false'. Refute it at one input. -/
def fnExactBucketValidWrong : ChangeSpec := { name := "fnExactBucketValid", fn := fun _ => fun
  | [d] => { results := [.lit (.bool false)], args := [d] }
  | _ => none }
def FnExactBucketValidWrongFalsely : Prop := fnExactBucketValidRow.holds Try.pinned (OpenSpec.ofChange fnExactBucketValidWrong)

/-- 'laws.FnExactFillBucket': WHATEVER THE INPUT: true; the input reads as it did. -/
def fnExactFillBucketSpec : ChangeSpec := { name := "fnExactFillBucket", fn := fun _ => fun
  | [d1, d2] => { results := [.lit (.bool true)], args := [d1, d2] }
  | _ => none }
def fnExactFillBucketRow : OpenClaim := { program := "ytkdogkpdgpppkaa", sum := "3f5458a57359b9ebb58077c03f0b9092b8db46356aa064e576a459d3ea0135de", func := "loop.example/feedbridge/laws.FnExactFillBucket", spec := "fnExactFillBucket", apart := false }
def FnExactFillBucketSaid : Prop := fnExactFillBucketRow.holds Try.pinned (OpenSpec.ofChange fnExactFillBucketSpec)

/-- ITS FALSE NEIGHBOUR: 'it returns false'. Refute it at one input. -/
def fnExactFillBucketWrong : ChangeSpec := { name := "fnExactFillBucket", fn := fun _ => fun
  | [d1, d2] => { results := [.lit (.bool false)], args := [d1, d2] }
  | _ => none }
def FnExactFillBucketWrongFalsely : Prop := fnExactFillBucketRow.holds Try.pinned (OpenSpec.ofChange fnExactFillBucketWrong)

/-- 'laws.FnExactReadyAt': WHATEVER THE INPUT: true; the input reads as it did. -/
def fnExactReadyAtSpec : ChangeSpec := { name := "fnExactReadyAt", fn := fun _ => fun
  | [d1, d2] => { results := [.lit (.bool true)], args := [d1, d2] }
  | _ => none }
def fnExactReadyAtRow : OpenClaim := { program := "ytkdogkpdgpppkaa", sum := "3f5458a57359b9ebb58077c03f0b9092b8db46356aa064e576a459d3ea0135de", func := "loop.example/feedbridge/laws.FnExactReadyAt", spec := "fnExactReadyAt", apart := false }
def FnExactReadyAtSaid : Prop := fnExactReadyAtRow.holds Try.pinned (OpenSpec.ofChange fnExactReadyAtSpec)

/-- ITS FALSE NEIGHBOUR: 'it returns false'. Refute it at one input. -/
def fnExactReadyAtWrong : ChangeSpec := { name := "fnExactReadyAt", fn := fun _ => fun
  | [d1, d2] => { results := [.lit (.bool false)], args := [d1, d2] }
  | _ => none }
def FnExactReadyAtWrongFalsely : Prop := fnExactReadyAtRow.holds Try.pinned (OpenSpec.ofChange fnExactReadyAtWrong)

/-- 'laws.FnExactAskBucket': WHATEVER THE INPUT: true; the input reads as it did. -/
def fnExactAskBucketSpec : ChangeSpec := { name := "fnExactAskBucket", fn := fun _ => fun
  | [d1, d2, d3] => { results := [.lit (.bool true)], args := [d1, d2, d3] }
  | _ => none }
def fnExactAskBucketRow : OpenClaim := { program := "ytkdogkpdgpppkaa", sum := "3f5458a57359b9ebb58077c03f0b9092b8db46356aa064e576a459d3ea0135de", func := "loop.example/feedbridge/laws.FnExactAskBucket", spec := "fnExactAskBucket", apart := false }
def FnExactAskBucketSaid : Prop := fnExactAskBucketRow.holds Try.pinned (OpenSpec.ofChange fnExactAskBucketSpec)

/-- ITS FALSE NEIGHBOUR: 'it returns false'. Refute it at one input. -/
def fnExactAskBucketWrong : ChangeSpec := { name := "fnExactAskBucket", fn := fun _ => fun
  | [d1, d2, d3] => { results := [.lit (.bool false)], args := [d1, d2, d3] }
  | _ => none }
def FnExactAskBucketWrongFalsely : Prop := fnExactAskBucketRow.holds Try.pinned (OpenSpec.ofChange fnExactAskBucketWrong)

/-- 'laws.FnBucketValid': WHATEVER THE INPUT: true; the input reads as it did. -/
def fnBucketValidSpec : ChangeSpec := { name := "fnBucketValid", fn := fun _ => fun
  | [d] => { results := [.lit (.bool true)], args := [d] }
  | _ => none }
def fnBucketValidRow : OpenClaim := { program := "ytkdogkpdgpppkaa", sum := "3f5458a57359b9ebb58077c03f0b9092b8db46356aa064e576a459d3ea0135de", func := "loop.example/feedbridge/laws.FnBucketValid", spec := "fnBucketValid", apart := false }
def FnBucketValidSaid : Prop := fnBucketValidRow.holds Try.pinned (OpenSpec.ofChange fnBucketValidSpec)

/-- ITS FALSE NEIGHBOUR: 'it returns false'. Refute it at one input. -/
def fnBucketValidWrong : ChangeSpec := { name := "fnBucketValid", fn := fun _ => fun
  | [d] => { results := [.lit (.bool false)], args := [d] }
  | _ => none }
def FnBucketValidWrongFalsely : Prop := fnBucketValidRow.holds Try.pinned (OpenSpec.ofChange fnBucketValidWrong)

/-- 'laws.FnFillBucket': WHATEVER THE INPUT: true; the input reads as it did. -/
def fnFillBucketSpec : ChangeSpec := { name := "fnFillBucket", fn := fun _ => fun
  | [d] => { results := [.lit (.bool true)], args := [d] }
  | _ => none }
def fnFillBucketRow : OpenClaim := { program := "ytkdogkpdgpppkaa", sum := "3f5458a57359b9ebb58077c03f0b9092b8db46356aa064e576a459d3ea0135de", func := "loop.example/feedbridge/laws.FnFillBucket", spec := "fnFillBucket", apart := false }
def FnFillBucketSaid : Prop := fnFillBucketRow.holds Try.pinned (OpenSpec.ofChange fnFillBucketSpec)

/-- ITS FALSE NEIGHBOUR: 'it returns false'. Refute it at one input. -/
def fnFillBucketWrong : ChangeSpec := { name := "fnFillBucket", fn := fun _ => fun
  | [d] => { results := [.lit (.bool false)], args := [d] }
  | _ => none }
def FnFillBucketWrongFalsely : Prop := fnFillBucketRow.holds Try.pinned (OpenSpec.ofChange fnFillBucketWrong)

/-- 'laws.FnReadyAt': WHATEVER THE INPUT: true; the input reads as it did. -/
def fnReadyAtSpec : ChangeSpec := { name := "fnReadyAt", fn := fun _ => fun
  | [d] => { results := [.lit (.bool true)], args := [d] }
  | _ => none }
def fnReadyAtRow : OpenClaim := { program := "ytkdogkpdgpppkaa", sum := "3f5458a57359b9ebb58077c03f0b9092b8db46356aa064e576a459d3ea0135de", func := "loop.example/feedbridge/laws.FnReadyAt", spec := "fnReadyAt", apart := false }
def FnReadyAtSaid : Prop := fnReadyAtRow.holds Try.pinned (OpenSpec.ofChange fnReadyAtSpec)

/-- ITS FALSE NEIGHBOUR: 'it returns false'. Refute it at one input. -/
def fnReadyAtWrong : ChangeSpec := { name := "fnReadyAt", fn := fun _ => fun
  | [d] => { results := [.lit (.bool false)], args := [d] }
  | _ => none }
def FnReadyAtWrongFalsely : Prop := fnReadyAtRow.holds Try.pinned (OpenSpec.ofChange fnReadyAtWrong)

/-- 'laws.FnAskBucket': WHATEVER THE INPUT: true; the input reads as it did. -/
def fnAskBucketSpec : ChangeSpec := { name := "fnAskBucket", fn := fun _ => fun
  | [d] => { results := [.lit (.bool true)], args := [d] }
  | _ => none }
def fnAskBucketRow : OpenClaim := { program := "ytkdogkpdgpppkaa", sum := "3f5458a57359b9ebb58077c03f0b9092b8db46356aa064e576a459d3ea0135de", func := "loop.example/feedbridge/laws.FnAskBucket", spec := "fnAskBucket", apart := false }
def FnAskBucketSaid : Prop := fnAskBucketRow.holds Try.pinned (OpenSpec.ofChange fnAskBucketSpec)

/-- ITS FALSE NEIGHBOUR: 'it returns false'. Refute it at one input. -/
def fnAskBucketWrong : ChangeSpec := { name := "fnAskBucket", fn := fun _ => fun
  | [d] => { results := [.lit (.bool false)], args := [d] }
  | _ => none }
def FnAskBucketWrongFalsely : Prop := fnAskBucketRow.holds Try.pinned (OpenSpec.ofChange fnAskBucketWrong)

/- THE SECOND FORM. 'bulk': how many values and letters a reading holds, each counted each time it is reached (what is shared counts as often as it is met; a slice's spare places count too). A statement '..UptoSaid' is the law's where the arguments, and the package variables that the reading takes, are together of bulk at most 1048576: NARROWER than '..Said'. Prove '..Said' where nothing that the law and all that it calls make is longer than what came in: it says more and counts as full. Else prove '..UptoSaid'. A law counts once. -/
mutual
def uptoBulk {H : Type} : DataW H → Nat
  | .lit (.string bytes) => bytes.length + 1
  | .lit _ => 1
  | .nil => 1
  | .ptr d => uptoBulk d + 1
  | .slice elems spare => uptoBulkAll elems + uptoBulkAll spare + 1
  | .agg parts => uptoBulkAll parts + 1
  | .iface _ d => uptoBulk d + 1
  | .map entries => uptoBulkEntries entries + 1
  | .held _ => 1
def uptoBulkAll {H : Type} : List (DataW H) → Nat
  | [] => 0
  | d :: r => uptoBulk d + uptoBulkAll r
def uptoBulkEntries {H : Type} : List (Lit × DataW H) → Nat
  | [] => 0
  | x :: r => uptoBulkEntry x + uptoBulkEntries r
def uptoBulkEntry {H : Type} : Lit × DataW H → Nat
  | (.string bytes, d) => bytes.length + uptoBulk d + 1
  | (_, d) => uptoBulk d + 1
 end
def uptoSmall : (H : Type) → List (DataW H) → Bool := fun _ ds => decide (uptoBulkAll ds ≤ 1048576)
def OpenSpec.upto (s : _root_.Go.ChangeSpec) : _root_.Go.OpenSpec := { _root_.Go.OpenSpec.ofChange s with cond := some uptoSmall }

/-- 'laws.FnExactBucketValid', WHERE WHAT IT READS IS OF BULK AT MOST 1048576: true; the input reads as it did. -/
def fnExactBucketValidUptoRow : OpenClaim := { program := "ytkdogkpdgpppkaa", sum := "3f5458a57359b9ebb58077c03f0b9092b8db46356aa064e576a459d3ea0135de", func := "loop.example/feedbridge/laws.FnExactBucketValid", spec := "fnExactBucketValid", apart := false, narrowed := true }
def FnExactBucketValidUptoSaid : Prop := fnExactBucketValidUptoRow.holds Try.pinned (OpenSpec.upto fnExactBucketValidSpec)

/-- 'laws.FnExactFillBucket', WHERE WHAT IT READS IS OF BULK AT MOST 1048576: true; the input reads as it did. -/
def fnExactFillBucketUptoRow : OpenClaim := { program := "ytkdogkpdgpppkaa", sum := "3f5458a57359b9ebb58077c03f0b9092b8db46356aa064e576a459d3ea0135de", func := "loop.example/feedbridge/laws.FnExactFillBucket", spec := "fnExactFillBucket", apart := false, narrowed := true }
def FnExactFillBucketUptoSaid : Prop := fnExactFillBucketUptoRow.holds Try.pinned (OpenSpec.upto fnExactFillBucketSpec)

/-- 'laws.FnExactReadyAt', WHERE WHAT IT READS IS OF BULK AT MOST 1048576: true; the input reads as it did. -/
def fnExactReadyAtUptoRow : OpenClaim := { program := "ytkdogkpdgpppkaa", sum := "3f5458a57359b9ebb58077c03f0b9092b8db46356aa064e576a459d3ea0135de", func := "loop.example/feedbridge/laws.FnExactReadyAt", spec := "fnExactReadyAt", apart := false, narrowed := true }
def FnExactReadyAtUptoSaid : Prop := fnExactReadyAtUptoRow.holds Try.pinned (OpenSpec.upto fnExactReadyAtSpec)

/-- 'laws.FnExactAskBucket', WHERE WHAT IT READS IS OF BULK AT MOST 1048576: true; the input reads as it did. -/
def fnExactAskBucketUptoRow : OpenClaim := { program := "ytkdogkpdgpppkaa", sum := "3f5458a57359b9ebb58077c03f0b9092b8db46356aa064e576a459d3ea0135de", func := "loop.example/feedbridge/laws.FnExactAskBucket", spec := "fnExactAskBucket", apart := false, narrowed := true }
def FnExactAskBucketUptoSaid : Prop := fnExactAskBucketUptoRow.holds Try.pinned (OpenSpec.upto fnExactAskBucketSpec)

/-- 'laws.FnBucketValid', WHERE WHAT IT READS IS OF BULK AT MOST 1048576: true; the input reads as it did. -/
def fnBucketValidUptoRow : OpenClaim := { program := "ytkdogkpdgpppkaa", sum := "3f5458a57359b9ebb58077c03f0b9092b8db46356aa064e576a459d3ea0135de", func := "loop.example/feedbridge/laws.FnBucketValid", spec := "fnBucketValid", apart := false, narrowed := true }
def FnBucketValidUptoSaid : Prop := fnBucketValidUptoRow.holds Try.pinned (OpenSpec.upto fnBucketValidSpec)

/-- 'laws.FnFillBucket', WHERE WHAT IT READS IS OF BULK AT MOST 1048576: true; the input reads as it did. -/
def fnFillBucketUptoRow : OpenClaim := { program := "ytkdogkpdgpppkaa", sum := "3f5458a57359b9ebb58077c03f0b9092b8db46356aa064e576a459d3ea0135de", func := "loop.example/feedbridge/laws.FnFillBucket", spec := "fnFillBucket", apart := false, narrowed := true }
def FnFillBucketUptoSaid : Prop := fnFillBucketUptoRow.holds Try.pinned (OpenSpec.upto fnFillBucketSpec)

/-- 'laws.FnReadyAt', WHERE WHAT IT READS IS OF BULK AT MOST 1048576: true; the input reads as it did. -/
def fnReadyAtUptoRow : OpenClaim := { program := "ytkdogkpdgpppkaa", sum := "3f5458a57359b9ebb58077c03f0b9092b8db46356aa064e576a459d3ea0135de", func := "loop.example/feedbridge/laws.FnReadyAt", spec := "fnReadyAt", apart := false, narrowed := true }
def FnReadyAtUptoSaid : Prop := fnReadyAtUptoRow.holds Try.pinned (OpenSpec.upto fnReadyAtSpec)

/-- 'laws.FnAskBucket', WHERE WHAT IT READS IS OF BULK AT MOST 1048576: true; the input reads as it did. -/
def fnAskBucketUptoRow : OpenClaim := { program := "ytkdogkpdgpppkaa", sum := "3f5458a57359b9ebb58077c03f0b9092b8db46356aa064e576a459d3ea0135de", func := "loop.example/feedbridge/laws.FnAskBucket", spec := "fnAskBucket", apart := false, narrowed := true }
def FnAskBucketUptoSaid : Prop := fnAskBucketUptoRow.holds Try.pinned (OpenSpec.upto fnAskBucketSpec)

end Rows
end Go.Proofs.Ytkdogkpdgpppkaa
