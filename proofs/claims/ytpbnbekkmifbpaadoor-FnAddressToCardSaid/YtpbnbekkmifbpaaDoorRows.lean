/-
  NARROWER THAN 'FOR EVERY INPUT', by the rows' own cells (each row's printed sentence says how): FnMentionsIn: laid · FnExactMentionsIn: laid · FnAddressTo: laid · FnExactAddressTo: laid · FnTagsIn: laid · FnExactTagsIn: laid.
  DERIVED. THE GIVEN ROWS OF THIS SEAT. 6 by the template 'for every input the law returns true; each argument reads behind the call as it read before'; 0 by the template 'total and deterministic' (their statements: YtpbnbekkmifbpaaDoorTotals.lean).
  GIVEN WITH THE SEED: the statements are not yours to turn. If you find one false, say at which input.
  Laid BY PROGRAM, IN A SANDBOX (cutbox-rows.mjs): the forced cells as the released guide's own fill.sh prints them over the translation 81ea01d4d07ec09a… (all of the seat's roots in one cut). By AI agents, Wed Nov 11 2026. No macro, syntax, notation, axiom, sorry.
-/
import Derived.Test.YtpbnbekkmifbpaaDoorChecked
import GoSem.PinnedTables
import GoSem.Claim
import GoSem.ClaimJoined
import GoSem.ClaimMapViews
import Derived.JoinedTies
import Derived.KernelRfl
namespace Go.Proofs.YtpbnbekkmifbpaaDoor
/- THE CELL 'sum', in the pinned program and in every row, IS THE sha256 OF THE DUMP (.gsa) THAT YtpbnbekkmifbpaaDoorProg.lean LOADS. Nothing in Lean hashes anything: it is a label: what it is worth is what the hold of that sum in a sandbox is worth. -/
noncomputable def Tryd.pinned : Pinned := { name := "ytpbnbekkmifbpaadoor", sum := "81ea01d4d07ec09a9fbc24be5173596b670fa8f3ae8c307c27fcf74ee8011c36", checked := Tryd.checked }
namespace Rows
def none {H : Type} : Left H := { results := [], args := [] }

/- WHAT THE LISTED PACKAGE-LEVEL VARIABLES READ AS WHEN THE CALL BEGINS. Each datum BY PROGRAM (the guide's laid-datum.mjs) off the statement by which the dump's own 'gosem.cut.vars' lays the variable. In a bare row this is a premise. The card (YtpbnbekkmifbpaaDoorCards.lean) ties it to the program's text. -/
def laid_unicode_utf8_acceptRanges {H : Type} : DataW H := .agg [.agg [.lit (.int .u8 128), .lit (.int .u8 191)], .agg [.lit (.int .u8 160), .lit (.int .u8 191)], .agg [.lit (.int .u8 128), .lit (.int .u8 159)], .agg [.lit (.int .u8 144), .lit (.int .u8 191)], .agg [.lit (.int .u8 128), .lit (.int .u8 143)], .agg [.lit (.int .u8 0), .lit (.int .u8 0)], .agg [.lit (.int .u8 0), .lit (.int .u8 0)], .agg [.lit (.int .u8 0), .lit (.int .u8 0)], .agg [.lit (.int .u8 0), .lit (.int .u8 0)], .agg [.lit (.int .u8 0), .lit (.int .u8 0)], .agg [.lit (.int .u8 0), .lit (.int .u8 0)], .agg [.lit (.int .u8 0), .lit (.int .u8 0)], .agg [.lit (.int .u8 0), .lit (.int .u8 0)], .agg [.lit (.int .u8 0), .lit (.int .u8 0)], .agg [.lit (.int .u8 0), .lit (.int .u8 0)], .agg [.lit (.int .u8 0), .lit (.int .u8 0)]]
/-- One of Go's own tables, pinned by name: the form's constant. -/
def laid_unicode_utf8_first : DataW Unit := Go.Pinned.utf8First

/-- 'laws.FnMentionsIn': WHATEVER THE INPUT: true; the input reads as it did. -/
def fnMentionsInSpec : ChangeSpec := { name := "fnMentionsIn", fn := fun _ => fun
  | [d] => { results := [.lit (.bool true)], args := [d] }
  | _ => none }
def fnMentionsInRow : OpenClaim := { program := "ytpbnbekkmifbpaadoor", sum := "81ea01d4d07ec09a9fbc24be5173596b670fa8f3ae8c307c27fcf74ee8011c36", func := "loop.example/feedbridge/laws.FnMentionsIn", spec := "fnMentionsIn", inPlace := ["internal/bytealg.CountString", "internal/bytealg.IndexByteString", "internal/bytealg.IndexString"], named := ["unicode/utf8.first", "unicode/utf8.acceptRanges", "internal/bytealg.MaxLen"], apart := false, laid := [("unicode/utf8.acceptRanges", laid_unicode_utf8_acceptRanges), ("unicode/utf8.first", laid_unicode_utf8_first)] }
def FnMentionsInSaid : Prop := fnMentionsInRow.holds Tryd.pinned (OpenSpec.ofChange fnMentionsInSpec)

/-- ITS FALSE NEIGHBOUR: 'it returns false'. Refute it at one input. -/
def fnMentionsInWrong : ChangeSpec := { name := "fnMentionsIn", fn := fun _ => fun
  | [d] => { results := [.lit (.bool false)], args := [d] }
  | _ => none }
def FnMentionsInWrongFalsely : Prop := fnMentionsInRow.holds Tryd.pinned (OpenSpec.ofChange fnMentionsInWrong)

/-- 'laws.FnExactMentionsIn': WHATEVER THE INPUT: true; the input reads as it did. -/
def fnExactMentionsInSpec : ChangeSpec := { name := "fnExactMentionsIn", fn := fun _ => fun
  | [d] => { results := [.lit (.bool true)], args := [d] }
  | _ => none }
def fnExactMentionsInRow : OpenClaim := { program := "ytpbnbekkmifbpaadoor", sum := "81ea01d4d07ec09a9fbc24be5173596b670fa8f3ae8c307c27fcf74ee8011c36", func := "loop.example/feedbridge/laws.FnExactMentionsIn", spec := "fnExactMentionsIn", inPlace := ["internal/bytealg.CountString", "internal/bytealg.IndexByteString", "internal/bytealg.IndexString"], named := ["unicode/utf8.first", "unicode/utf8.acceptRanges", "internal/bytealg.MaxLen"], apart := false, laid := [("unicode/utf8.acceptRanges", laid_unicode_utf8_acceptRanges), ("unicode/utf8.first", laid_unicode_utf8_first)] }
def FnExactMentionsInSaid : Prop := fnExactMentionsInRow.holds Tryd.pinned (OpenSpec.ofChange fnExactMentionsInSpec)

/-- ITS FALSE NEIGHBOUR: 'it returns false'. Refute it at one input. -/
def fnExactMentionsInWrong : ChangeSpec := { name := "fnExactMentionsIn", fn := fun _ => fun
  | [d] => { results := [.lit (.bool false)], args := [d] }
  | _ => none }
def FnExactMentionsInWrongFalsely : Prop := fnExactMentionsInRow.holds Tryd.pinned (OpenSpec.ofChange fnExactMentionsInWrong)

/-- 'laws.FnAddressTo': WHATEVER THE INPUT: true; the input reads as it did. -/
def fnAddressToSpec : ChangeSpec := { name := "fnAddressTo", fn := fun _ => fun
  | [d] => { results := [.lit (.bool true)], args := [d] }
  | _ => none }
def fnAddressToRow : OpenClaim := { program := "ytpbnbekkmifbpaadoor", sum := "81ea01d4d07ec09a9fbc24be5173596b670fa8f3ae8c307c27fcf74ee8011c36", func := "loop.example/feedbridge/laws.FnAddressTo", spec := "fnAddressTo", inPlace := ["internal/bytealg.CountString", "internal/bytealg.IndexByteString", "internal/bytealg.IndexString"], named := ["unicode/utf8.first", "unicode/utf8.acceptRanges", "internal/bytealg.MaxLen"], apart := false, laid := [("unicode/utf8.acceptRanges", laid_unicode_utf8_acceptRanges), ("unicode/utf8.first", laid_unicode_utf8_first)] }
def FnAddressToSaid : Prop := fnAddressToRow.holds Tryd.pinned (OpenSpec.ofChange fnAddressToSpec)

/-- ITS FALSE NEIGHBOUR: 'it returns false'. Refute it at one input. -/
def fnAddressToWrong : ChangeSpec := { name := "fnAddressTo", fn := fun _ => fun
  | [d] => { results := [.lit (.bool false)], args := [d] }
  | _ => none }
def FnAddressToWrongFalsely : Prop := fnAddressToRow.holds Tryd.pinned (OpenSpec.ofChange fnAddressToWrong)

/-- 'laws.FnExactAddressTo': WHATEVER THE INPUT: true; the input reads as it did. -/
def fnExactAddressToSpec : ChangeSpec := { name := "fnExactAddressTo", fn := fun _ => fun
  | [d1, d2] => { results := [.lit (.bool true)], args := [d1, d2] }
  | _ => none }
def fnExactAddressToRow : OpenClaim := { program := "ytpbnbekkmifbpaadoor", sum := "81ea01d4d07ec09a9fbc24be5173596b670fa8f3ae8c307c27fcf74ee8011c36", func := "loop.example/feedbridge/laws.FnExactAddressTo", spec := "fnExactAddressTo", inPlace := ["internal/bytealg.CountString", "internal/bytealg.IndexByteString", "internal/bytealg.IndexString"], named := ["unicode/utf8.first", "unicode/utf8.acceptRanges", "internal/bytealg.MaxLen"], apart := false, laid := [("unicode/utf8.acceptRanges", laid_unicode_utf8_acceptRanges), ("unicode/utf8.first", laid_unicode_utf8_first)] }
def FnExactAddressToSaid : Prop := fnExactAddressToRow.holds Tryd.pinned (OpenSpec.ofChange fnExactAddressToSpec)

/-- ITS FALSE NEIGHBOUR: 'it returns false'. Refute it at one input. -/
def fnExactAddressToWrong : ChangeSpec := { name := "fnExactAddressTo", fn := fun _ => fun
  | [d1, d2] => { results := [.lit (.bool false)], args := [d1, d2] }
  | _ => none }
def FnExactAddressToWrongFalsely : Prop := fnExactAddressToRow.holds Tryd.pinned (OpenSpec.ofChange fnExactAddressToWrong)

/-- 'laws.FnTagsIn': WHATEVER THE INPUT: true; the input reads as it did. -/
def fnTagsInSpec : ChangeSpec := { name := "fnTagsIn", fn := fun _ => fun
  | [d] => { results := [.lit (.bool true)], args := [d] }
  | _ => none }
def fnTagsInRow : OpenClaim := { program := "ytpbnbekkmifbpaadoor", sum := "81ea01d4d07ec09a9fbc24be5173596b670fa8f3ae8c307c27fcf74ee8011c36", func := "loop.example/feedbridge/laws.FnTagsIn", spec := "fnTagsIn", inPlace := ["internal/bytealg.CountString", "internal/bytealg.IndexByteString", "internal/bytealg.IndexString"], named := ["unicode/utf8.first", "unicode/utf8.acceptRanges", "internal/bytealg.MaxLen"], apart := false, laid := [("unicode/utf8.acceptRanges", laid_unicode_utf8_acceptRanges), ("unicode/utf8.first", laid_unicode_utf8_first)] }
def FnTagsInSaid : Prop := fnTagsInRow.holds Tryd.pinned (OpenSpec.ofChange fnTagsInSpec)

/-- ITS FALSE NEIGHBOUR: 'it returns false'. Refute it at one input. -/
def fnTagsInWrong : ChangeSpec := { name := "fnTagsIn", fn := fun _ => fun
  | [d] => { results := [.lit (.bool false)], args := [d] }
  | _ => none }
def FnTagsInWrongFalsely : Prop := fnTagsInRow.holds Tryd.pinned (OpenSpec.ofChange fnTagsInWrong)

/-- 'laws.FnExactTagsIn': WHATEVER THE INPUT: true; the input reads as it did. -/
def fnExactTagsInSpec : ChangeSpec := { name := "fnExactTagsIn", fn := fun _ => fun
  | [d] => { results := [.lit (.bool true)], args := [d] }
  | _ => none }
def fnExactTagsInRow : OpenClaim := { program := "ytpbnbekkmifbpaadoor", sum := "81ea01d4d07ec09a9fbc24be5173596b670fa8f3ae8c307c27fcf74ee8011c36", func := "loop.example/feedbridge/laws.FnExactTagsIn", spec := "fnExactTagsIn", inPlace := ["internal/bytealg.CountString", "internal/bytealg.IndexByteString", "internal/bytealg.IndexString"], named := ["unicode/utf8.first", "unicode/utf8.acceptRanges", "internal/bytealg.MaxLen"], apart := false, laid := [("unicode/utf8.acceptRanges", laid_unicode_utf8_acceptRanges), ("unicode/utf8.first", laid_unicode_utf8_first)] }
def FnExactTagsInSaid : Prop := fnExactTagsInRow.holds Tryd.pinned (OpenSpec.ofChange fnExactTagsInSpec)

/-- ITS FALSE NEIGHBOUR: 'it returns false'. Refute it at one input. -/
def fnExactTagsInWrong : ChangeSpec := { name := "fnExactTagsIn", fn := fun _ => fun
  | [d] => { results := [.lit (.bool false)], args := [d] }
  | _ => none }
def FnExactTagsInWrongFalsely : Prop := fnExactTagsInRow.holds Tryd.pinned (OpenSpec.ofChange fnExactTagsInWrong)

/- THE SECOND FORM. 'bulk': how many values and letters a reading holds, each counted each time it is reached (what is shared counts as often as it is met; a slice's spare places count too). A statement '..UptoSaid' is the law's where the arguments, and the package variables that the reading takes, are together of bulk at most 1048576: NARROWER than '..Said'. Prove '..Said' where nothing that the law and all that it calls make is longer than what came in: it says more and counts as full. Else prove '..UptoSaid'. A law counts once. -/
mutual
def uptoBulk {H : Type} : DataW H → Nat
  | .lit (.string bytes) => bytes.length + 1
  | .lit _ => 1
  | .nil => 1
  | .ptr d => uptoBulk d + 1
  | .slice elems spare => uptoBulkAll elems + uptoBulkAll spare + 1
  | .agg parts => uptoBulkAll parts + 1
  | .iface _ d => uptoBulk d + 1
  | .map entries => uptoBulkEntries entries + 1
  | .held _ => 1
def uptoBulkAll {H : Type} : List (DataW H) → Nat
  | [] => 0
  | d :: r => uptoBulk d + uptoBulkAll r
def uptoBulkEntries {H : Type} : List (Lit × DataW H) → Nat
  | [] => 0
  | x :: r => uptoBulkEntry x + uptoBulkEntries r
def uptoBulkEntry {H : Type} : Lit × DataW H → Nat
  | (.string bytes, d) => bytes.length + uptoBulk d + 1
  | (_, d) => uptoBulk d + 1
 end
def uptoSmall : (H : Type) → List (DataW H) → Bool := fun _ ds => decide (uptoBulkAll ds ≤ 1048576)
def OpenSpec.upto (s : _root_.Go.ChangeSpec) : _root_.Go.OpenSpec := { _root_.Go.OpenSpec.ofChange s with cond := some uptoSmall }

/-- 'laws.FnMentionsIn', WHERE WHAT IT READS IS OF BULK AT MOST 1048576: true; the input reads as it did. -/
def fnMentionsInUptoRow : OpenClaim := { program := "ytpbnbekkmifbpaadoor", sum := "81ea01d4d07ec09a9fbc24be5173596b670fa8f3ae8c307c27fcf74ee8011c36", func := "loop.example/feedbridge/laws.FnMentionsIn", spec := "fnMentionsIn", inPlace := ["internal/bytealg.CountString", "internal/bytealg.IndexByteString", "internal/bytealg.IndexString"], named := ["unicode/utf8.first", "unicode/utf8.acceptRanges", "internal/bytealg.MaxLen"], apart := false, laid := [("unicode/utf8.acceptRanges", laid_unicode_utf8_acceptRanges), ("unicode/utf8.first", laid_unicode_utf8_first)], narrowed := true }
def FnMentionsInUptoSaid : Prop := fnMentionsInUptoRow.holds Tryd.pinned (OpenSpec.upto fnMentionsInSpec)

/-- 'laws.FnExactMentionsIn', WHERE WHAT IT READS IS OF BULK AT MOST 1048576: true; the input reads as it did. -/
def fnExactMentionsInUptoRow : OpenClaim := { program := "ytpbnbekkmifbpaadoor", sum := "81ea01d4d07ec09a9fbc24be5173596b670fa8f3ae8c307c27fcf74ee8011c36", func := "loop.example/feedbridge/laws.FnExactMentionsIn", spec := "fnExactMentionsIn", inPlace := ["internal/bytealg.CountString", "internal/bytealg.IndexByteString", "internal/bytealg.IndexString"], named := ["unicode/utf8.first", "unicode/utf8.acceptRanges", "internal/bytealg.MaxLen"], apart := false, laid := [("unicode/utf8.acceptRanges", laid_unicode_utf8_acceptRanges), ("unicode/utf8.first", laid_unicode_utf8_first)], narrowed := true }
def FnExactMentionsInUptoSaid : Prop := fnExactMentionsInUptoRow.holds Tryd.pinned (OpenSpec.upto fnExactMentionsInSpec)

/-- 'laws.FnAddressTo', WHERE WHAT IT READS IS OF BULK AT MOST 1048576: true; the input reads as it did. -/
def fnAddressToUptoRow : OpenClaim := { program := "ytpbnbekkmifbpaadoor", sum := "81ea01d4d07ec09a9fbc24be5173596b670fa8f3ae8c307c27fcf74ee8011c36", func := "loop.example/feedbridge/laws.FnAddressTo", spec := "fnAddressTo", inPlace := ["internal/bytealg.CountString", "internal/bytealg.IndexByteString", "internal/bytealg.IndexString"], named := ["unicode/utf8.first", "unicode/utf8.acceptRanges", "internal/bytealg.MaxLen"], apart := false, laid := [("unicode/utf8.acceptRanges", laid_unicode_utf8_acceptRanges), ("unicode/utf8.first", laid_unicode_utf8_first)], narrowed := true }
def FnAddressToUptoSaid : Prop := fnAddressToUptoRow.holds Tryd.pinned (OpenSpec.upto fnAddressToSpec)

/-- 'laws.FnExactAddressTo', WHERE WHAT IT READS IS OF BULK AT MOST 1048576: true; the input reads as it did. -/
def fnExactAddressToUptoRow : OpenClaim := { program := "ytpbnbekkmifbpaadoor", sum := "81ea01d4d07ec09a9fbc24be5173596b670fa8f3ae8c307c27fcf74ee8011c36", func := "loop.example/feedbridge/laws.FnExactAddressTo", spec := "fnExactAddressTo", inPlace := ["internal/bytealg.CountString", "internal/bytealg.IndexByteString", "internal/bytealg.IndexString"], named := ["unicode/utf8.first", "unicode/utf8.acceptRanges", "internal/bytealg.MaxLen"], apart := false, laid := [("unicode/utf8.acceptRanges", laid_unicode_utf8_acceptRanges), ("unicode/utf8.first", laid_unicode_utf8_first)], narrowed := true }
def FnExactAddressToUptoSaid : Prop := fnExactAddressToUptoRow.holds Tryd.pinned (OpenSpec.upto fnExactAddressToSpec)

/-- 'laws.FnTagsIn', WHERE WHAT IT READS IS OF BULK AT MOST 1048576: true; the input reads as it did. -/
def fnTagsInUptoRow : OpenClaim := { program := "ytpbnbekkmifbpaadoor", sum := "81ea01d4d07ec09a9fbc24be5173596b670fa8f3ae8c307c27fcf74ee8011c36", func := "loop.example/feedbridge/laws.FnTagsIn", spec := "fnTagsIn", inPlace := ["internal/bytealg.CountString", "internal/bytealg.IndexByteString", "internal/bytealg.IndexString"], named := ["unicode/utf8.first", "unicode/utf8.acceptRanges", "internal/bytealg.MaxLen"], apart := false, laid := [("unicode/utf8.acceptRanges", laid_unicode_utf8_acceptRanges), ("unicode/utf8.first", laid_unicode_utf8_first)], narrowed := true }
def FnTagsInUptoSaid : Prop := fnTagsInUptoRow.holds Tryd.pinned (OpenSpec.upto fnTagsInSpec)

/-- 'laws.FnExactTagsIn', WHERE WHAT IT READS IS OF BULK AT MOST 1048576: true; the input reads as it did. -/
def fnExactTagsInUptoRow : OpenClaim := { program := "ytpbnbekkmifbpaadoor", sum := "81ea01d4d07ec09a9fbc24be5173596b670fa8f3ae8c307c27fcf74ee8011c36", func := "loop.example/feedbridge/laws.FnExactTagsIn", spec := "fnExactTagsIn", inPlace := ["internal/bytealg.CountString", "internal/bytealg.IndexByteString", "internal/bytealg.IndexString"], named := ["unicode/utf8.first", "unicode/utf8.acceptRanges", "internal/bytealg.MaxLen"], apart := false, laid := [("unicode/utf8.acceptRanges", laid_unicode_utf8_acceptRanges), ("unicode/utf8.first", laid_unicode_utf8_first)], narrowed := true }
def FnExactTagsInUptoSaid : Prop := fnExactTagsInUptoRow.holds Tryd.pinned (OpenSpec.upto fnExactTagsInSpec)

end Rows
end Go.Proofs.YtpbnbekkmifbpaaDoor
