/-
  No cell of these rows narrows 'for every input' (looked for: loops, veiled, ifaces, maps, wideKeys, modest, calm, conditions, laid).
  DERIVED. THE GIVEN ROWS OF THIS SEAT. 5 by the template 'for every input the law returns true; each argument reads behind the call as it read before'; 0 by the template 'total and deterministic' (their statements: YtadgmncngkkdnaaTotals.lean).
  GIVEN WITH THE SEED: the statements are not yours to turn. If you find one false, say at which input.
  Laid BY PROGRAM, IN A SANDBOX (cutbox-rows.mjs): the forced cells as the released guide's own fill.sh prints them over the translation 5aaf1d1acd68f35d… (all of the seat's roots in one cut). By AI agents, Wed Nov 11 2026. No macro, syntax, notation, axiom, sorry.
-/
import Derived.Test.YtadgmncngkkdnaaChecked
import GoSem.Claim
import GoSem.ClaimJoined
import GoSem.ClaimMapViews
import Derived.JoinedTies
import Derived.KernelRfl
namespace Go.Proofs.Ytadgmncngkkdnaa
/- THE CELL 'sum', in the pinned program and in every row, IS THE sha256 OF THE DUMP (.gsa) THAT YtadgmncngkkdnaaProg.lean LOADS. Nothing in Lean hashes anything: it is a label: what it is worth is what the hold of that sum in a sandbox is worth. -/
noncomputable def Try.pinned : Pinned := { name := "ytadgmncngkkdnaa", sum := "5aaf1d1acd68f35d040bec8738182145a2d188bf11dd465371686b7d96c2c2e7", checked := Try.checked }
namespace Rows
def none {H : Type} : Left H := { results := [], args := [] }

/-- 'laws.FnAddDelivery': WHATEVER THE INPUT: true; the input reads as it did. -/
def fnAddDeliverySpec : ChangeSpec := { name := "fnAddDelivery", fn := fun _ => fun
  | [d] => { results := [.lit (.bool true)], args := [d] }
  | _ => none }
def fnAddDeliveryRow : OpenClaim := { program := "ytadgmncngkkdnaa", sum := "5aaf1d1acd68f35d040bec8738182145a2d188bf11dd465371686b7d96c2c2e7", func := "loop.example/feedbridge/laws.FnAddDelivery", spec := "fnAddDelivery", apart := false }
def FnAddDeliverySaid : Prop := fnAddDeliveryRow.holds Try.pinned (OpenSpec.ofChange fnAddDeliverySpec)

/-- ITS FALSE NEIGHBOUR: 'it returns false'. Refute it at one input. -/
def fnAddDeliveryWrong : ChangeSpec := { name := "fnAddDelivery", fn := fun _ => fun
  | [d] => { results := [.lit (.bool false)], args := [d] }
  | _ => none }
def FnAddDeliveryWrongFalsely : Prop := fnAddDeliveryRow.holds Try.pinned (OpenSpec.ofChange fnAddDeliveryWrong)

/-- 'laws.FnExactAddDelivery': WHATEVER THE INPUT: true; the input reads as it did. -/
def fnExactAddDeliverySpec : ChangeSpec := { name := "fnExactAddDelivery", fn := fun _ => fun
  | [d1, d2] => { results := [.lit (.bool true)], args := [d1, d2] }
  | _ => none }
def fnExactAddDeliveryRow : OpenClaim := { program := "ytadgmncngkkdnaa", sum := "5aaf1d1acd68f35d040bec8738182145a2d188bf11dd465371686b7d96c2c2e7", func := "loop.example/feedbridge/laws.FnExactAddDelivery", spec := "fnExactAddDelivery", apart := false }
def FnExactAddDeliverySaid : Prop := fnExactAddDeliveryRow.holds Try.pinned (OpenSpec.ofChange fnExactAddDeliverySpec)

/-- ITS FALSE NEIGHBOUR: 'it returns false'. Refute it at one input. -/
def fnExactAddDeliveryWrong : ChangeSpec := { name := "fnExactAddDelivery", fn := fun _ => fun
  | [d1, d2] => { results := [.lit (.bool false)], args := [d1, d2] }
  | _ => none }
def FnExactAddDeliveryWrongFalsely : Prop := fnExactAddDeliveryRow.holds Try.pinned (OpenSpec.ofChange fnExactAddDeliveryWrong)

/-- 'laws.FnTryFirst': WHATEVER THE INPUT: true; the input reads as it did. -/
def fnTryFirstSpec : ChangeSpec := { name := "fnTryFirst", fn := fun _ => fun
  | [d] => { results := [.lit (.bool true)], args := [d] }
  | _ => none }
def fnTryFirstRow : OpenClaim := { program := "ytadgmncngkkdnaa", sum := "5aaf1d1acd68f35d040bec8738182145a2d188bf11dd465371686b7d96c2c2e7", func := "loop.example/feedbridge/laws.FnTryFirst", spec := "fnTryFirst", apart := false }
def FnTryFirstSaid : Prop := fnTryFirstRow.holds Try.pinned (OpenSpec.ofChange fnTryFirstSpec)

/-- ITS FALSE NEIGHBOUR: 'it returns false'. Refute it at one input. -/
def fnTryFirstWrong : ChangeSpec := { name := "fnTryFirst", fn := fun _ => fun
  | [d] => { results := [.lit (.bool false)], args := [d] }
  | _ => none }
def FnTryFirstWrongFalsely : Prop := fnTryFirstRow.holds Try.pinned (OpenSpec.ofChange fnTryFirstWrong)

/-- 'laws.FnExactTryFirst': WHATEVER THE INPUT: true; the input reads as it did. -/
def fnExactTryFirstSpec : ChangeSpec := { name := "fnExactTryFirst", fn := fun _ => fun
  | [d1, d2, d3] => { results := [.lit (.bool true)], args := [d1, d2, d3] }
  | _ => none }
def fnExactTryFirstRow : OpenClaim := { program := "ytadgmncngkkdnaa", sum := "5aaf1d1acd68f35d040bec8738182145a2d188bf11dd465371686b7d96c2c2e7", func := "loop.example/feedbridge/laws.FnExactTryFirst", spec := "fnExactTryFirst", apart := false }
def FnExactTryFirstSaid : Prop := fnExactTryFirstRow.holds Try.pinned (OpenSpec.ofChange fnExactTryFirstSpec)

/-- ITS FALSE NEIGHBOUR: 'it returns false'. Refute it at one input. -/
def fnExactTryFirstWrong : ChangeSpec := { name := "fnExactTryFirst", fn := fun _ => fun
  | [d1, d2, d3] => { results := [.lit (.bool false)], args := [d1, d2, d3] }
  | _ => none }
def FnExactTryFirstWrongFalsely : Prop := fnExactTryFirstRow.holds Try.pinned (OpenSpec.ofChange fnExactTryFirstWrong)

/-- 'laws.FnExactDueAt': WHATEVER THE INPUT: true; the input reads as it did. -/
def fnExactDueAtSpec : ChangeSpec := { name := "fnExactDueAt", fn := fun _ => fun
  | [d1, d2] => { results := [.lit (.bool true)], args := [d1, d2] }
  | _ => none }
def fnExactDueAtRow : OpenClaim := { program := "ytadgmncngkkdnaa", sum := "5aaf1d1acd68f35d040bec8738182145a2d188bf11dd465371686b7d96c2c2e7", func := "loop.example/feedbridge/laws.FnExactDueAt", spec := "fnExactDueAt", apart := false }
def FnExactDueAtSaid : Prop := fnExactDueAtRow.holds Try.pinned (OpenSpec.ofChange fnExactDueAtSpec)

/-- ITS FALSE NEIGHBOUR: 'it returns false'. Refute it at one input. -/
def fnExactDueAtWrong : ChangeSpec := { name := "fnExactDueAt", fn := fun _ => fun
  | [d1, d2] => { results := [.lit (.bool false)], args := [d1, d2] }
  | _ => none }
def FnExactDueAtWrongFalsely : Prop := fnExactDueAtRow.holds Try.pinned (OpenSpec.ofChange fnExactDueAtWrong)

/- THE SECOND FORM. 'bulk': how many values and letters a reading holds, each counted each time it is reached (what is shared counts as often as it is met; a slice's spare places count too). A statement '..UptoSaid' is the law's where the arguments, and the package variables that the reading takes, are together of bulk at most 1048576: NARROWER than '..Said'. Prove '..Said' where nothing that the law and all that it calls make is longer than what came in: it says more and counts as full. Else prove '..UptoSaid'. A law counts once. -/
mutual
def uptoBulk {H : Type} : DataW H → Nat
  | .lit (.string bytes) => bytes.length + 1
  | .lit _ => 1
  | .nil => 1
  | .ptr d => uptoBulk d + 1
  | .slice elems spare => uptoBulkAll elems + uptoBulkAll spare + 1
  | .agg parts => uptoBulkAll parts + 1
  | .iface _ d => uptoBulk d + 1
  | .map entries => uptoBulkEntries entries + 1
  | .held _ => 1
def uptoBulkAll {H : Type} : List (DataW H) → Nat
  | [] => 0
  | d :: r => uptoBulk d + uptoBulkAll r
def uptoBulkEntries {H : Type} : List (Lit × DataW H) → Nat
  | [] => 0
  | x :: r => uptoBulkEntry x + uptoBulkEntries r
def uptoBulkEntry {H : Type} : Lit × DataW H → Nat
  | (.string bytes, d) => bytes.length + uptoBulk d + 1
  | (_, d) => uptoBulk d + 1
 end
def uptoSmall : (H : Type) → List (DataW H) → Bool := fun _ ds => decide (uptoBulkAll ds ≤ 1048576)
def OpenSpec.upto (s : _root_.Go.ChangeSpec) : _root_.Go.OpenSpec := { _root_.Go.OpenSpec.ofChange s with cond := some uptoSmall }

/-- 'laws.FnAddDelivery', WHERE WHAT IT READS IS OF BULK AT MOST 1048576: true; the input reads as it did. -/
def fnAddDeliveryUptoRow : OpenClaim := { program := "ytadgmncngkkdnaa", sum := "5aaf1d1acd68f35d040bec8738182145a2d188bf11dd465371686b7d96c2c2e7", func := "loop.example/feedbridge/laws.FnAddDelivery", spec := "fnAddDelivery", apart := false, narrowed := true }
def FnAddDeliveryUptoSaid : Prop := fnAddDeliveryUptoRow.holds Try.pinned (OpenSpec.upto fnAddDeliverySpec)

/-- 'laws.FnExactAddDelivery', WHERE WHAT IT READS IS OF BULK AT MOST 1048576: true; the input reads as it did. -/
def fnExactAddDeliveryUptoRow : OpenClaim := { program := "ytadgmncngkkdnaa", sum := "5aaf1d1acd68f35d040bec8738182145a2d188bf11dd465371686b7d96c2c2e7", func := "loop.example/feedbridge/laws.FnExactAddDelivery", spec := "fnExactAddDelivery", apart := false, narrowed := true }
def FnExactAddDeliveryUptoSaid : Prop := fnExactAddDeliveryUptoRow.holds Try.pinned (OpenSpec.upto fnExactAddDeliverySpec)

/-- 'laws.FnTryFirst', WHERE WHAT IT READS IS OF BULK AT MOST 1048576: true; the input reads as it did. -/
def fnTryFirstUptoRow : OpenClaim := { program := "ytadgmncngkkdnaa", sum := "5aaf1d1acd68f35d040bec8738182145a2d188bf11dd465371686b7d96c2c2e7", func := "loop.example/feedbridge/laws.FnTryFirst", spec := "fnTryFirst", apart := false, narrowed := true }
def FnTryFirstUptoSaid : Prop := fnTryFirstUptoRow.holds Try.pinned (OpenSpec.upto fnTryFirstSpec)

/-- 'laws.FnExactTryFirst', WHERE WHAT IT READS IS OF BULK AT MOST 1048576: true; the input reads as it did. -/
def fnExactTryFirstUptoRow : OpenClaim := { program := "ytadgmncngkkdnaa", sum := "5aaf1d1acd68f35d040bec8738182145a2d188bf11dd465371686b7d96c2c2e7", func := "loop.example/feedbridge/laws.FnExactTryFirst", spec := "fnExactTryFirst", apart := false, narrowed := true }
def FnExactTryFirstUptoSaid : Prop := fnExactTryFirstUptoRow.holds Try.pinned (OpenSpec.upto fnExactTryFirstSpec)

/-- 'laws.FnExactDueAt', WHERE WHAT IT READS IS OF BULK AT MOST 1048576: true; the input reads as it did. -/
def fnExactDueAtUptoRow : OpenClaim := { program := "ytadgmncngkkdnaa", sum := "5aaf1d1acd68f35d040bec8738182145a2d188bf11dd465371686b7d96c2c2e7", func := "loop.example/feedbridge/laws.FnExactDueAt", spec := "fnExactDueAt", apart := false, narrowed := true }
def FnExactDueAtUptoSaid : Prop := fnExactDueAtUptoRow.holds Try.pinned (OpenSpec.upto fnExactDueAtSpec)

end Rows
end Go.Proofs.Ytadgmncngkkdnaa
