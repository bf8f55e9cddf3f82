/-
  No cell of these rows narrows 'for every input' (looked for: loops, veiled, ifaces, maps, wideKeys, modest, calm, conditions, laid).
  DERIVED. THE GIVEN ROWS OF THIS SEAT. 8 by the template 'for every input the law returns true; each argument reads behind the call as it read before'; 0 by the template 'total and deterministic' (their statements: YtajfglcoigklnaaTotals.lean).
  GIVEN WITH THE SEED: the statements are not yours to turn. If you find one false, say at which input.
  Laid BY PROGRAM, IN A SANDBOX (cutbox-rows.mjs): the forced cells as the released guide's own fill.sh prints them over the translation 66a680dd1f2f809e… (all of the seat's roots in one cut). By AI agents, Wed Nov 11 2026. No macro, syntax, notation, axiom, sorry.
-/
import Derived.Test.YtajfglcoigklnaaChecked
import GoSem.Claim
import GoSem.ClaimJoined
import GoSem.ClaimMapViews
import Derived.JoinedTies
import Derived.KernelRfl
namespace Go.Proofs.Ytajfglcoigklnaa
/- THE CELL 'sum', in the pinned program and in every row, IS THE sha256 OF THE DUMP (.gsa) THAT YtajfglcoigklnaaProg.lean LOADS. Nothing in Lean hashes anything: it is a label: what it is worth is what the hold of that sum in a sandbox is worth. -/
noncomputable def Try.pinned : Pinned := { name := "ytajfglcoigklnaa", sum := "66a680dd1f2f809e944ef7cb0e7389cc0546ca456d8c488c47445133d597d131", checked := Try.checked }
namespace Rows
def none {H : Type} : Left H := { results := [], args := [] }

/-- 'laws.FnExactBlockHits': WHATEVER THE INPUT: true; the input reads as it did. -/
def fnExactBlockHitsSpec : ChangeSpec := { name := "fnExactBlockHits", fn := fun _ => fun
  | [d1, d2] => { results := [.lit (.bool true)], args := [d1, d2] }
  | _ => none }
def fnExactBlockHitsRow : OpenClaim := { program := "ytajfglcoigklnaa", sum := "66a680dd1f2f809e944ef7cb0e7389cc0546ca456d8c488c47445133d597d131", func := "loop.example/feedbridge/laws.FnExactBlockHits", spec := "fnExactBlockHits", apart := false }
def FnExactBlockHitsSaid : Prop := fnExactBlockHitsRow.holds Try.pinned (OpenSpec.ofChange fnExactBlockHitsSpec)

/-- ITS FALSE NEIGHBOUR: 'it returns false'. Refute it at one input. -/
def fnExactBlockHitsWrong : ChangeSpec := { name := "fnExactBlockHits", fn := fun _ => fun
  | [d1, d2] => { results := [.lit (.bool false)], args := [d1, d2] }
  | _ => none }
def FnExactBlockHitsWrongFalsely : Prop := fnExactBlockHitsRow.holds Try.pinned (OpenSpec.ofChange fnExactBlockHitsWrong)

/-- 'laws.FnBlockHits': WHATEVER THE INPUT: true; the input reads as it did. -/
def fnBlockHitsSpec : ChangeSpec := { name := "fnBlockHits", fn := fun _ => fun
  | [d] => { results := [.lit (.bool true)], args := [d] }
  | _ => none }
def fnBlockHitsRow : OpenClaim := { program := "ytajfglcoigklnaa", sum := "66a680dd1f2f809e944ef7cb0e7389cc0546ca456d8c488c47445133d597d131", func := "loop.example/feedbridge/laws.FnBlockHits", spec := "fnBlockHits", apart := false }
def FnBlockHitsSaid : Prop := fnBlockHitsRow.holds Try.pinned (OpenSpec.ofChange fnBlockHitsSpec)

/-- ITS FALSE NEIGHBOUR: 'it returns false'. Refute it at one input. -/
def fnBlockHitsWrong : ChangeSpec := { name := "fnBlockHits", fn := fun _ => fun
  | [d] => { results := [.lit (.bool false)], args := [d] }
  | _ => none }
def FnBlockHitsWrongFalsely : Prop := fnBlockHitsRow.holds Try.pinned (OpenSpec.ofChange fnBlockHitsWrong)

/-- 'laws.FnBlocksValid': WHATEVER THE INPUT: true; the input reads as it did. -/
def fnBlocksValidSpec : ChangeSpec := { name := "fnBlocksValid", fn := fun _ => fun
  | [d] => { results := [.lit (.bool true)], args := [d] }
  | _ => none }
def fnBlocksValidRow : OpenClaim := { program := "ytajfglcoigklnaa", sum := "66a680dd1f2f809e944ef7cb0e7389cc0546ca456d8c488c47445133d597d131", func := "loop.example/feedbridge/laws.FnBlocksValid", spec := "fnBlocksValid", apart := false }
def FnBlocksValidSaid : Prop := fnBlocksValidRow.holds Try.pinned (OpenSpec.ofChange fnBlocksValidSpec)

/-- ITS FALSE NEIGHBOUR: 'it returns false'. Refute it at one input. -/
def fnBlocksValidWrong : ChangeSpec := { name := "fnBlocksValid", fn := fun _ => fun
  | [d] => { results := [.lit (.bool false)], args := [d] }
  | _ => none }
def FnBlocksValidWrongFalsely : Prop := fnBlocksValidRow.holds Try.pinned (OpenSpec.ofChange fnBlocksValidWrong)

/-- 'laws.FnExactBlocksValid': WHATEVER THE INPUT: true; the input reads as it did. -/
def fnExactBlocksValidSpec : ChangeSpec := { name := "fnExactBlocksValid", fn := fun _ => fun
  | [d] => { results := [.lit (.bool true)], args := [d] }
  | _ => none }
def fnExactBlocksValidRow : OpenClaim := { program := "ytajfglcoigklnaa", sum := "66a680dd1f2f809e944ef7cb0e7389cc0546ca456d8c488c47445133d597d131", func := "loop.example/feedbridge/laws.FnExactBlocksValid", spec := "fnExactBlocksValid", apart := false }
def FnExactBlocksValidSaid : Prop := fnExactBlocksValidRow.holds Try.pinned (OpenSpec.ofChange fnExactBlocksValidSpec)

/-- ITS FALSE NEIGHBOUR: 'it returns false'. Refute it at one input. -/
def fnExactBlocksValidWrong : ChangeSpec := { name := "fnExactBlocksValid", fn := fun _ => fun
  | [d] => { results := [.lit (.bool false)], args := [d] }
  | _ => none }
def FnExactBlocksValidWrongFalsely : Prop := fnExactBlocksValidRow.holds Try.pinned (OpenSpec.ofChange fnExactBlocksValidWrong)

/-- 'laws.FnHearsFrom': WHATEVER THE INPUT: true; the input reads as it did. -/
def fnHearsFromSpec : ChangeSpec := { name := "fnHearsFrom", fn := fun _ => fun
  | [d] => { results := [.lit (.bool true)], args := [d] }
  | _ => none }
def fnHearsFromRow : OpenClaim := { program := "ytajfglcoigklnaa", sum := "66a680dd1f2f809e944ef7cb0e7389cc0546ca456d8c488c47445133d597d131", func := "loop.example/feedbridge/laws.FnHearsFrom", spec := "fnHearsFrom", apart := false }
def FnHearsFromSaid : Prop := fnHearsFromRow.holds Try.pinned (OpenSpec.ofChange fnHearsFromSpec)

/-- ITS FALSE NEIGHBOUR: 'it returns false'. Refute it at one input. -/
def fnHearsFromWrong : ChangeSpec := { name := "fnHearsFrom", fn := fun _ => fun
  | [d] => { results := [.lit (.bool false)], args := [d] }
  | _ => none }
def FnHearsFromWrongFalsely : Prop := fnHearsFromRow.holds Try.pinned (OpenSpec.ofChange fnHearsFromWrong)

/-- 'laws.FnExactHearsFrom': WHATEVER THE INPUT: true; the input reads as it did. -/
def fnExactHearsFromSpec : ChangeSpec := { name := "fnExactHearsFrom", fn := fun _ => fun
  | [d1, d2] => { results := [.lit (.bool true)], args := [d1, d2] }
  | _ => none }
def fnExactHearsFromRow : OpenClaim := { program := "ytajfglcoigklnaa", sum := "66a680dd1f2f809e944ef7cb0e7389cc0546ca456d8c488c47445133d597d131", func := "loop.example/feedbridge/laws.FnExactHearsFrom", spec := "fnExactHearsFrom", apart := false }
def FnExactHearsFromSaid : Prop := fnExactHearsFromRow.holds Try.pinned (OpenSpec.ofChange fnExactHearsFromSpec)

/-- ITS FALSE NEIGHBOUR: 'it returns false'. Refute it at one input. -/
def fnExactHearsFromWrong : ChangeSpec := { name := "fnExactHearsFrom", fn := fun _ => fun
  | [d1, d2] => { results := [.lit (.bool false)], args := [d1, d2] }
  | _ => none }
def FnExactHearsFromWrongFalsely : Prop := fnExactHearsFromRow.holds Try.pinned (OpenSpec.ofChange fnExactHearsFromWrong)

/-- 'laws.FnKeepFans': WHATEVER THE INPUT: true; the input reads as it did. -/
def fnKeepFansSpec : ChangeSpec := { name := "fnKeepFans", fn := fun _ => fun
  | [d] => { results := [.lit (.bool true)], args := [d] }
  | _ => none }
def fnKeepFansRow : OpenClaim := { program := "ytajfglcoigklnaa", sum := "66a680dd1f2f809e944ef7cb0e7389cc0546ca456d8c488c47445133d597d131", func := "loop.example/feedbridge/laws.FnKeepFans", spec := "fnKeepFans", apart := false }
def FnKeepFansSaid : Prop := fnKeepFansRow.holds Try.pinned (OpenSpec.ofChange fnKeepFansSpec)

/-- ITS FALSE NEIGHBOUR: 'it returns false'. Refute it at one input. -/
def fnKeepFansWrong : ChangeSpec := { name := "fnKeepFans", fn := fun _ => fun
  | [d] => { results := [.lit (.bool false)], args := [d] }
  | _ => none }
def FnKeepFansWrongFalsely : Prop := fnKeepFansRow.holds Try.pinned (OpenSpec.ofChange fnKeepFansWrong)

/-- 'laws.FnExactKeepFans': WHATEVER THE INPUT: true; the input reads as it did. -/
def fnExactKeepFansSpec : ChangeSpec := { name := "fnExactKeepFans", fn := fun _ => fun
  | [d1, d2] => { results := [.lit (.bool true)], args := [d1, d2] }
  | _ => none }
def fnExactKeepFansRow : OpenClaim := { program := "ytajfglcoigklnaa", sum := "66a680dd1f2f809e944ef7cb0e7389cc0546ca456d8c488c47445133d597d131", func := "loop.example/feedbridge/laws.FnExactKeepFans", spec := "fnExactKeepFans", apart := false }
def FnExactKeepFansSaid : Prop := fnExactKeepFansRow.holds Try.pinned (OpenSpec.ofChange fnExactKeepFansSpec)

/-- ITS FALSE NEIGHBOUR: 'it returns false'. Refute it at one input. -/
def fnExactKeepFansWrong : ChangeSpec := { name := "fnExactKeepFans", fn := fun _ => fun
  | [d1, d2] => { results := [.lit (.bool false)], args := [d1, d2] }
  | _ => none }
def FnExactKeepFansWrongFalsely : Prop := fnExactKeepFansRow.holds Try.pinned (OpenSpec.ofChange fnExactKeepFansWrong)

/- THE SECOND FORM. 'bulk': how many values and letters a reading holds, each counted each time it is reached (what is shared counts as often as it is met; a slice's spare places count too). A statement '..UptoSaid' is the law's where the arguments, and the package variables that the reading takes, are together of bulk at most 1048576: NARROWER than '..Said'. Prove '..Said' where nothing that the law and all that it calls make is longer than what came in: it says more and counts as full. Else prove '..UptoSaid'. A law counts once. -/
mutual
def uptoBulk {H : Type} : DataW H → Nat
  | .lit (.string bytes) => bytes.length + 1
  | .lit _ => 1
  | .nil => 1
  | .ptr d => uptoBulk d + 1
  | .slice elems spare => uptoBulkAll elems + uptoBulkAll spare + 1
  | .agg parts => uptoBulkAll parts + 1
  | .iface _ d => uptoBulk d + 1
  | .map entries => uptoBulkEntries entries + 1
  | .held _ => 1
def uptoBulkAll {H : Type} : List (DataW H) → Nat
  | [] => 0
  | d :: r => uptoBulk d + uptoBulkAll r
def uptoBulkEntries {H : Type} : List (Lit × DataW H) → Nat
  | [] => 0
  | x :: r => uptoBulkEntry x + uptoBulkEntries r
def uptoBulkEntry {H : Type} : Lit × DataW H → Nat
  | (.string bytes, d) => bytes.length + uptoBulk d + 1
  | (_, d) => uptoBulk d + 1
 end
def uptoSmall : (H : Type) → List (DataW H) → Bool := fun _ ds => decide (uptoBulkAll ds ≤ 1048576)
def OpenSpec.upto (s : _root_.Go.ChangeSpec) : _root_.Go.OpenSpec := { _root_.Go.OpenSpec.ofChange s with cond := some uptoSmall }

/-- 'laws.FnExactBlockHits', WHERE WHAT IT READS IS OF BULK AT MOST 1048576: true; the input reads as it did. -/
def fnExactBlockHitsUptoRow : OpenClaim := { program := "ytajfglcoigklnaa", sum := "66a680dd1f2f809e944ef7cb0e7389cc0546ca456d8c488c47445133d597d131", func := "loop.example/feedbridge/laws.FnExactBlockHits", spec := "fnExactBlockHits", apart := false, narrowed := true }
def FnExactBlockHitsUptoSaid : Prop := fnExactBlockHitsUptoRow.holds Try.pinned (OpenSpec.upto fnExactBlockHitsSpec)

/-- 'laws.FnBlockHits', WHERE WHAT IT READS IS OF BULK AT MOST 1048576: true; the input reads as it did. -/
def fnBlockHitsUptoRow : OpenClaim := { program := "ytajfglcoigklnaa", sum := "66a680dd1f2f809e944ef7cb0e7389cc0546ca456d8c488c47445133d597d131", func := "loop.example/feedbridge/laws.FnBlockHits", spec := "fnBlockHits", apart := false, narrowed := true }
def FnBlockHitsUptoSaid : Prop := fnBlockHitsUptoRow.holds Try.pinned (OpenSpec.upto fnBlockHitsSpec)

/-- 'laws.FnBlocksValid', WHERE WHAT IT READS IS OF BULK AT MOST 1048576: true; the input reads as it did. -/
def fnBlocksValidUptoRow : OpenClaim := { program := "ytajfglcoigklnaa", sum := "66a680dd1f2f809e944ef7cb0e7389cc0546ca456d8c488c47445133d597d131", func := "loop.example/feedbridge/laws.FnBlocksValid", spec := "fnBlocksValid", apart := false, narrowed := true }
def FnBlocksValidUptoSaid : Prop := fnBlocksValidUptoRow.holds Try.pinned (OpenSpec.upto fnBlocksValidSpec)

/-- 'laws.FnExactBlocksValid', WHERE WHAT IT READS IS OF BULK AT MOST 1048576: true; the input reads as it did. -/
def fnExactBlocksValidUptoRow : OpenClaim := { program := "ytajfglcoigklnaa", sum := "66a680dd1f2f809e944ef7cb0e7389cc0546ca456d8c488c47445133d597d131", func := "loop.example/feedbridge/laws.FnExactBlocksValid", spec := "fnExactBlocksValid", apart := false, narrowed := true }
def FnExactBlocksValidUptoSaid : Prop := fnExactBlocksValidUptoRow.holds Try.pinned (OpenSpec.upto fnExactBlocksValidSpec)

/-- 'laws.FnHearsFrom', WHERE WHAT IT READS IS OF BULK AT MOST 1048576: true; the input reads as it did. -/
def fnHearsFromUptoRow : OpenClaim := { program := "ytajfglcoigklnaa", sum := "66a680dd1f2f809e944ef7cb0e7389cc0546ca456d8c488c47445133d597d131", func := "loop.example/feedbridge/laws.FnHearsFrom", spec := "fnHearsFrom", apart := false, narrowed := true }
def FnHearsFromUptoSaid : Prop := fnHearsFromUptoRow.holds Try.pinned (OpenSpec.upto fnHearsFromSpec)

/-- 'laws.FnExactHearsFrom', WHERE WHAT IT READS IS OF BULK AT MOST 1048576: true; the input reads as it did. -/
def fnExactHearsFromUptoRow : OpenClaim := { program := "ytajfglcoigklnaa", sum := "66a680dd1f2f809e944ef7cb0e7389cc0546ca456d8c488c47445133d597d131", func := "loop.example/feedbridge/laws.FnExactHearsFrom", spec := "fnExactHearsFrom", apart := false, narrowed := true }
def FnExactHearsFromUptoSaid : Prop := fnExactHearsFromUptoRow.holds Try.pinned (OpenSpec.upto fnExactHearsFromSpec)

/-- 'laws.FnKeepFans', WHERE WHAT IT READS IS OF BULK AT MOST 1048576: true; the input reads as it did. -/
def fnKeepFansUptoRow : OpenClaim := { program := "ytajfglcoigklnaa", sum := "66a680dd1f2f809e944ef7cb0e7389cc0546ca456d8c488c47445133d597d131", func := "loop.example/feedbridge/laws.FnKeepFans", spec := "fnKeepFans", apart := false, narrowed := true }
def FnKeepFansUptoSaid : Prop := fnKeepFansUptoRow.holds Try.pinned (OpenSpec.upto fnKeepFansSpec)

/-- 'laws.FnExactKeepFans', WHERE WHAT IT READS IS OF BULK AT MOST 1048576: true; the input reads as it did. -/
def fnExactKeepFansUptoRow : OpenClaim := { program := "ytajfglcoigklnaa", sum := "66a680dd1f2f809e944ef7cb0e7389cc0546ca456d8c488c47445133d597d131", func := "loop.example/feedbridge/laws.FnExactKeepFans", spec := "fnExactKeepFans", apart := false, narrowed := true }
def FnExactKeepFansUptoSaid : Prop := fnExactKeepFansUptoRow.holds Try.pinned (OpenSpec.upto fnExactKeepFansSpec)

end Rows
end Go.Proofs.Ytajfglcoigklnaa
