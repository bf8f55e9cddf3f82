/-
  No cell of these rows narrows 'for every input' (looked for: loops, veiled, ifaces, maps, wideKeys, modest, calm, conditions, laid).
  DERIVED. THE GIVEN ROWS OF THIS SEAT. 8 by the template 'for every input the law returns true; each argument reads behind the call as it read before'; 0 by the template 'total and deterministic' (their statements: YteankmmmkdcaiaaTotals.lean).
  GIVEN WITH THE SEED: the statements are not yours to turn. If you find one false, say at which input.
  Laid BY PROGRAM, IN A SANDBOX (cutbox-rows.mjs): the forced cells as the released guide's own fill.sh prints them over the translation cd8837d2aec33edf… (all of the seat's roots in one cut). By AI agents, Wed Nov 11 2026. No macro, syntax, notation, axiom, sorry.
-/
import Derived.Test.YteankmmmkdcaiaaChecked
import GoSem.Claim
import GoSem.ClaimJoined
import GoSem.ClaimMapViews
import Derived.JoinedTies
import Derived.KernelRfl
namespace Go.Proofs.Yteankmmmkdcaiaa
/- THE CELL 'sum', in the pinned program and in every row, IS THE sha256 OF THE DUMP (.gsa) THAT YteankmmmkdcaiaaProg.lean LOADS. Nothing in Lean hashes anything: it is a label: what it is worth is what the hold of that sum in a sandbox is worth. -/
noncomputable def Try.pinned : Pinned := { name := "yteankmmmkdcaiaa", sum := "cd8837d2aec33edf156b1ea2e3390acec31a980f6f7d8f07530606ec06012d04", checked := Try.checked }
namespace Rows
def none {H : Type} : Left H := { results := [], args := [] }

/-- 'laws.FnExactNextPause': WHATEVER THE INPUT: true; the input reads as it did. -/
def fnExactNextPauseSpec : ChangeSpec := { name := "fnExactNextPause", fn := fun _ => fun
  | [d1, d2] => { results := [.lit (.bool true)], args := [d1, d2] }
  | _ => none }
def fnExactNextPauseRow : OpenClaim := { program := "yteankmmmkdcaiaa", sum := "cd8837d2aec33edf156b1ea2e3390acec31a980f6f7d8f07530606ec06012d04", func := "loop.example/feedbridge/laws.FnExactNextPause", spec := "fnExactNextPause", apart := false }
def FnExactNextPauseSaid : Prop := fnExactNextPauseRow.holds Try.pinned (OpenSpec.ofChange fnExactNextPauseSpec)

/-- ITS FALSE NEIGHBOUR: 'it returns false'. Refute it at one input. -/
def fnExactNextPauseWrong : ChangeSpec := { name := "fnExactNextPause", fn := fun _ => fun
  | [d1, d2] => { results := [.lit (.bool false)], args := [d1, d2] }
  | _ => none }
def FnExactNextPauseWrongFalsely : Prop := fnExactNextPauseRow.holds Try.pinned (OpenSpec.ofChange fnExactNextPauseWrong)

/-- 'laws.FnNextPause': WHATEVER THE INPUT: true; the input reads as it did. -/
def fnNextPauseSpec : ChangeSpec := { name := "fnNextPause", fn := fun _ => fun
  | [d] => { results := [.lit (.bool true)], args := [d] }
  | _ => none }
def fnNextPauseRow : OpenClaim := { program := "yteankmmmkdcaiaa", sum := "cd8837d2aec33edf156b1ea2e3390acec31a980f6f7d8f07530606ec06012d04", func := "loop.example/feedbridge/laws.FnNextPause", spec := "fnNextPause", apart := false }
def FnNextPauseSaid : Prop := fnNextPauseRow.holds Try.pinned (OpenSpec.ofChange fnNextPauseSpec)

/-- ITS FALSE NEIGHBOUR: 'it returns false'. Refute it at one input. -/
def fnNextPauseWrong : ChangeSpec := { name := "fnNextPause", fn := fun _ => fun
  | [d] => { results := [.lit (.bool false)], args := [d] }
  | _ => none }
def FnNextPauseWrongFalsely : Prop := fnNextPauseRow.holds Try.pinned (OpenSpec.ofChange fnNextPauseWrong)

/-- 'laws.FnWatchesValid': WHATEVER THE INPUT: true; the input reads as it did. -/
def fnWatchesValidSpec : ChangeSpec := { name := "fnWatchesValid", fn := fun _ => fun
  | [d] => { results := [.lit (.bool true)], args := [d] }
  | _ => none }
def fnWatchesValidRow : OpenClaim := { program := "yteankmmmkdcaiaa", sum := "cd8837d2aec33edf156b1ea2e3390acec31a980f6f7d8f07530606ec06012d04", func := "loop.example/feedbridge/laws.FnWatchesValid", spec := "fnWatchesValid", apart := false }
def FnWatchesValidSaid : Prop := fnWatchesValidRow.holds Try.pinned (OpenSpec.ofChange fnWatchesValidSpec)

/-- ITS FALSE NEIGHBOUR: 'it returns false'. Refute it at one input. -/
def fnWatchesValidWrong : ChangeSpec := { name := "fnWatchesValid", fn := fun _ => fun
  | [d] => { results := [.lit (.bool false)], args := [d] }
  | _ => none }
def FnWatchesValidWrongFalsely : Prop := fnWatchesValidRow.holds Try.pinned (OpenSpec.ofChange fnWatchesValidWrong)

/-- 'laws.FnExactWatchesValid': WHATEVER THE INPUT: true; the input reads as it did. -/
def fnExactWatchesValidSpec : ChangeSpec := { name := "fnExactWatchesValid", fn := fun _ => fun
  | [d] => { results := [.lit (.bool true)], args := [d] }
  | _ => none }
def fnExactWatchesValidRow : OpenClaim := { program := "yteankmmmkdcaiaa", sum := "cd8837d2aec33edf156b1ea2e3390acec31a980f6f7d8f07530606ec06012d04", func := "loop.example/feedbridge/laws.FnExactWatchesValid", spec := "fnExactWatchesValid", apart := false }
def FnExactWatchesValidSaid : Prop := fnExactWatchesValidRow.holds Try.pinned (OpenSpec.ofChange fnExactWatchesValidSpec)

/-- ITS FALSE NEIGHBOUR: 'it returns false'. Refute it at one input. -/
def fnExactWatchesValidWrong : ChangeSpec := { name := "fnExactWatchesValid", fn := fun _ => fun
  | [d] => { results := [.lit (.bool false)], args := [d] }
  | _ => none }
def FnExactWatchesValidWrongFalsely : Prop := fnExactWatchesValidRow.holds Try.pinned (OpenSpec.ofChange fnExactWatchesValidWrong)

/-- 'laws.FnLooksDue': WHATEVER THE INPUT: true; the input reads as it did. -/
def fnLooksDueSpec : ChangeSpec := { name := "fnLooksDue", fn := fun _ => fun
  | [d] => { results := [.lit (.bool true)], args := [d] }
  | _ => none }
def fnLooksDueRow : OpenClaim := { program := "yteankmmmkdcaiaa", sum := "cd8837d2aec33edf156b1ea2e3390acec31a980f6f7d8f07530606ec06012d04", func := "loop.example/feedbridge/laws.FnLooksDue", spec := "fnLooksDue", apart := false }
def FnLooksDueSaid : Prop := fnLooksDueRow.holds Try.pinned (OpenSpec.ofChange fnLooksDueSpec)

/-- ITS FALSE NEIGHBOUR: 'it returns false'. Refute it at one input. -/
def fnLooksDueWrong : ChangeSpec := { name := "fnLooksDue", fn := fun _ => fun
  | [d] => { results := [.lit (.bool false)], args := [d] }
  | _ => none }
def FnLooksDueWrongFalsely : Prop := fnLooksDueRow.holds Try.pinned (OpenSpec.ofChange fnLooksDueWrong)

/-- 'laws.FnExactLooksDue': WHATEVER THE INPUT: true; the input reads as it did. -/
def fnExactLooksDueSpec : ChangeSpec := { name := "fnExactLooksDue", fn := fun _ => fun
  | [d1, d2] => { results := [.lit (.bool true)], args := [d1, d2] }
  | _ => none }
def fnExactLooksDueRow : OpenClaim := { program := "yteankmmmkdcaiaa", sum := "cd8837d2aec33edf156b1ea2e3390acec31a980f6f7d8f07530606ec06012d04", func := "loop.example/feedbridge/laws.FnExactLooksDue", spec := "fnExactLooksDue", apart := false }
def FnExactLooksDueSaid : Prop := fnExactLooksDueRow.holds Try.pinned (OpenSpec.ofChange fnExactLooksDueSpec)

/-- ITS FALSE NEIGHBOUR: 'it returns false'. Refute it at one input. -/
def fnExactLooksDueWrong : ChangeSpec := { name := "fnExactLooksDue", fn := fun _ => fun
  | [d1, d2] => { results := [.lit (.bool false)], args := [d1, d2] }
  | _ => none }
def FnExactLooksDueWrongFalsely : Prop := fnExactLooksDueRow.holds Try.pinned (OpenSpec.ofChange fnExactLooksDueWrong)

/-- 'laws.FnLookAt': WHATEVER THE INPUT: true; the input reads as it did. -/
def fnLookAtSpec : ChangeSpec := { name := "fnLookAt", fn := fun _ => fun
  | [d] => { results := [.lit (.bool true)], args := [d] }
  | _ => none }
def fnLookAtRow : OpenClaim := { program := "yteankmmmkdcaiaa", sum := "cd8837d2aec33edf156b1ea2e3390acec31a980f6f7d8f07530606ec06012d04", func := "loop.example/feedbridge/laws.FnLookAt", spec := "fnLookAt", apart := false }
def FnLookAtSaid : Prop := fnLookAtRow.holds Try.pinned (OpenSpec.ofChange fnLookAtSpec)

/-- ITS FALSE NEIGHBOUR: 'it returns false'. Refute it at one input. -/
def fnLookAtWrong : ChangeSpec := { name := "fnLookAt", fn := fun _ => fun
  | [d] => { results := [.lit (.bool false)], args := [d] }
  | _ => none }
def FnLookAtWrongFalsely : Prop := fnLookAtRow.holds Try.pinned (OpenSpec.ofChange fnLookAtWrong)

/-- 'laws.FnExactLookAt': WHATEVER THE INPUT: true; the input reads as it did. -/
def fnExactLookAtSpec : ChangeSpec := { name := "fnExactLookAt", fn := fun _ => fun
  | [d1, d2, d3, d4] => { results := [.lit (.bool true)], args := [d1, d2, d3, d4] }
  | _ => none }
def fnExactLookAtRow : OpenClaim := { program := "yteankmmmkdcaiaa", sum := "cd8837d2aec33edf156b1ea2e3390acec31a980f6f7d8f07530606ec06012d04", func := "loop.example/feedbridge/laws.FnExactLookAt", spec := "fnExactLookAt", apart := false }
def FnExactLookAtSaid : Prop := fnExactLookAtRow.holds Try.pinned (OpenSpec.ofChange fnExactLookAtSpec)

/-- ITS FALSE NEIGHBOUR: 'it returns false'. Refute it at one input. -/
def fnExactLookAtWrong : ChangeSpec := { name := "fnExactLookAt", fn := fun _ => fun
  | [d1, d2, d3, d4] => { results := [.lit (.bool false)], args := [d1, d2, d3, d4] }
  | _ => none }
def FnExactLookAtWrongFalsely : Prop := fnExactLookAtRow.holds Try.pinned (OpenSpec.ofChange fnExactLookAtWrong)

/- THE SECOND FORM. 'bulk': how many values and letters a reading holds, each counted each time it is reached (what is shared counts as often as it is met; a slice's spare places count too). A statement '..UptoSaid' is the law's where the arguments, and the package variables that the reading takes, are together of bulk at most 1048576: NARROWER than '..Said'. Prove '..Said' where nothing that the law and all that it calls make is longer than what came in: it says more and counts as full. Else prove '..UptoSaid'. A law counts once. -/
mutual
def uptoBulk {H : Type} : DataW H → Nat
  | .lit (.string bytes) => bytes.length + 1
  | .lit _ => 1
  | .nil => 1
  | .ptr d => uptoBulk d + 1
  | .slice elems spare => uptoBulkAll elems + uptoBulkAll spare + 1
  | .agg parts => uptoBulkAll parts + 1
  | .iface _ d => uptoBulk d + 1
  | .map entries => uptoBulkEntries entries + 1
  | .held _ => 1
def uptoBulkAll {H : Type} : List (DataW H) → Nat
  | [] => 0
  | d :: r => uptoBulk d + uptoBulkAll r
def uptoBulkEntries {H : Type} : List (Lit × DataW H) → Nat
  | [] => 0
  | x :: r => uptoBulkEntry x + uptoBulkEntries r
def uptoBulkEntry {H : Type} : Lit × DataW H → Nat
  | (.string bytes, d) => bytes.length + uptoBulk d + 1
  | (_, d) => uptoBulk d + 1
 end
def uptoSmall : (H : Type) → List (DataW H) → Bool := fun _ ds => decide (uptoBulkAll ds ≤ 1048576)
def OpenSpec.upto (s : _root_.Go.ChangeSpec) : _root_.Go.OpenSpec := { _root_.Go.OpenSpec.ofChange s with cond := some uptoSmall }

/-- 'laws.FnExactNextPause', WHERE WHAT IT READS IS OF BULK AT MOST 1048576: true; the input reads as it did. -/
def fnExactNextPauseUptoRow : OpenClaim := { program := "yteankmmmkdcaiaa", sum := "cd8837d2aec33edf156b1ea2e3390acec31a980f6f7d8f07530606ec06012d04", func := "loop.example/feedbridge/laws.FnExactNextPause", spec := "fnExactNextPause", apart := false, narrowed := true }
def FnExactNextPauseUptoSaid : Prop := fnExactNextPauseUptoRow.holds Try.pinned (OpenSpec.upto fnExactNextPauseSpec)

/-- 'laws.FnNextPause', WHERE WHAT IT READS IS OF BULK AT MOST 1048576: true; the input reads as it did. -/
def fnNextPauseUptoRow : OpenClaim := { program := "yteankmmmkdcaiaa", sum := "cd8837d2aec33edf156b1ea2e3390acec31a980f6f7d8f07530606ec06012d04", func := "loop.example/feedbridge/laws.FnNextPause", spec := "fnNextPause", apart := false, narrowed := true }
def FnNextPauseUptoSaid : Prop := fnNextPauseUptoRow.holds Try.pinned (OpenSpec.upto fnNextPauseSpec)

/-- 'laws.FnWatchesValid', WHERE WHAT IT READS IS OF BULK AT MOST 1048576: true; the input reads as it did. -/
def fnWatchesValidUptoRow : OpenClaim := { program := "yteankmmmkdcaiaa", sum := "cd8837d2aec33edf156b1ea2e3390acec31a980f6f7d8f07530606ec06012d04", func := "loop.example/feedbridge/laws.FnWatchesValid", spec := "fnWatchesValid", apart := false, narrowed := true }
def FnWatchesValidUptoSaid : Prop := fnWatchesValidUptoRow.holds Try.pinned (OpenSpec.upto fnWatchesValidSpec)

/-- 'laws.FnExactWatchesValid', WHERE WHAT IT READS IS OF BULK AT MOST 1048576: true; the input reads as it did. -/
def fnExactWatchesValidUptoRow : OpenClaim := { program := "yteankmmmkdcaiaa", sum := "cd8837d2aec33edf156b1ea2e3390acec31a980f6f7d8f07530606ec06012d04", func := "loop.example/feedbridge/laws.FnExactWatchesValid", spec := "fnExactWatchesValid", apart := false, narrowed := true }
def FnExactWatchesValidUptoSaid : Prop := fnExactWatchesValidUptoRow.holds Try.pinned (OpenSpec.upto fnExactWatchesValidSpec)

/-- 'laws.FnLooksDue', WHERE WHAT IT READS IS OF BULK AT MOST 1048576: true; the input reads as it did. -/
def fnLooksDueUptoRow : OpenClaim := { program := "yteankmmmkdcaiaa", sum := "cd8837d2aec33edf156b1ea2e3390acec31a980f6f7d8f07530606ec06012d04", func := "loop.example/feedbridge/laws.FnLooksDue", spec := "fnLooksDue", apart := false, narrowed := true }
def FnLooksDueUptoSaid : Prop := fnLooksDueUptoRow.holds Try.pinned (OpenSpec.upto fnLooksDueSpec)

/-- 'laws.FnExactLooksDue', WHERE WHAT IT READS IS OF BULK AT MOST 1048576: true; the input reads as it did. -/
def fnExactLooksDueUptoRow : OpenClaim := { program := "yteankmmmkdcaiaa", sum := "cd8837d2aec33edf156b1ea2e3390acec31a980f6f7d8f07530606ec06012d04", func := "loop.example/feedbridge/laws.FnExactLooksDue", spec := "fnExactLooksDue", apart := false, narrowed := true }
def FnExactLooksDueUptoSaid : Prop := fnExactLooksDueUptoRow.holds Try.pinned (OpenSpec.upto fnExactLooksDueSpec)

/-- 'laws.FnLookAt', WHERE WHAT IT READS IS OF BULK AT MOST 1048576: true; the input reads as it did. -/
def fnLookAtUptoRow : OpenClaim := { program := "yteankmmmkdcaiaa", sum := "cd8837d2aec33edf156b1ea2e3390acec31a980f6f7d8f07530606ec06012d04", func := "loop.example/feedbridge/laws.FnLookAt", spec := "fnLookAt", apart := false, narrowed := true }
def FnLookAtUptoSaid : Prop := fnLookAtUptoRow.holds Try.pinned (OpenSpec.upto fnLookAtSpec)

/-- 'laws.FnExactLookAt', WHERE WHAT IT READS IS OF BULK AT MOST 1048576: true; the input reads as it did. -/
def fnExactLookAtUptoRow : OpenClaim := { program := "yteankmmmkdcaiaa", sum := "cd8837d2aec33edf156b1ea2e3390acec31a980f6f7d8f07530606ec06012d04", func := "loop.example/feedbridge/laws.FnExactLookAt", spec := "fnExactLookAt", apart := false, narrowed := true }
def FnExactLookAtUptoSaid : Prop := fnExactLookAtUptoRow.holds Try.pinned (OpenSpec.upto fnExactLookAtSpec)

end Rows
end Go.Proofs.Yteankmmmkdcaiaa
