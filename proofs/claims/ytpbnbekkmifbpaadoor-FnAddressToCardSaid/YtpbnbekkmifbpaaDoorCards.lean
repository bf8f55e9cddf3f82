/-
  DERIVED. GIVEN WITH THE SEED: THE CARDS: each row of YtpbnbekkmifbpaaDoorRows.lean that lists a variable, with what it lists TIED to the program's text (the seventh form; the later family's looks); each row that meets fmt, with fmt's text TOLD by the authors' own Lean function (tested against real Go, not proved from fmt's source: count such statements apart). THE CARD IS WHAT COUNTS. Prove the row's statement (the work); the ties are given (YtpbnbekkmifbpaaDoorTie.lean); close each card by the builder's one call (the guide's Derived/Test/ToyasCard.lean, 'card_holds'). Laid BY PROGRAM, IN A SANDBOX (cutbox-door.mjs). By AI agents, Wed Nov 11 2026. No macro, syntax, notation, axiom, sorry.
-/
import Derived.Test.YtpbnbekkmifbpaaDoorRows
import GoSem.ClaimSeven
namespace Go.Proofs.YtpbnbekkmifbpaaDoor
namespace Rows

/-- THE TIED CARD OF 'laws.FnMentionsIn'. -/
def fnMentionsInCard : Claim7 := { stood := { row := fnMentionsInRow, standIns := [], harness := (true, "3b1606e3a2515b34272ff1b99a553bec02c5af445cee6c76cb5eb675e0c2789c"), looks := false }, kinds := [], alts := [], laidByText := true, laidKinds := [.data, .pinned], laidTests := true, laidLooks := .later }
def FnMentionsInCardSaid : Prop := Claim7.holds Tryd.pinned (.plain (OpenSpec.ofChange fnMentionsInSpec)) fnMentionsInCard

/-- THE TIED CARD OF 'laws.FnExactMentionsIn'. -/
def fnExactMentionsInCard : Claim7 := { stood := { row := fnExactMentionsInRow, standIns := [], harness := (true, "3b1606e3a2515b34272ff1b99a553bec02c5af445cee6c76cb5eb675e0c2789c"), looks := false }, kinds := [], alts := [], laidByText := true, laidKinds := [.data, .pinned], laidTests := true, laidLooks := .later }
def FnExactMentionsInCardSaid : Prop := Claim7.holds Tryd.pinned (.plain (OpenSpec.ofChange fnExactMentionsInSpec)) fnExactMentionsInCard

/-- THE TIED CARD OF 'laws.FnAddressTo'. -/
def fnAddressToCard : Claim7 := { stood := { row := fnAddressToRow, standIns := [], harness := (true, "3b1606e3a2515b34272ff1b99a553bec02c5af445cee6c76cb5eb675e0c2789c"), looks := false }, kinds := [], alts := [], laidByText := true, laidKinds := [.data, .pinned], laidTests := true, laidLooks := .later }
def FnAddressToCardSaid : Prop := Claim7.holds Tryd.pinned (.plain (OpenSpec.ofChange fnAddressToSpec)) fnAddressToCard

/-- THE TIED CARD OF 'laws.FnExactAddressTo'. -/
def fnExactAddressToCard : Claim7 := { stood := { row := fnExactAddressToRow, standIns := [], harness := (true, "3b1606e3a2515b34272ff1b99a553bec02c5af445cee6c76cb5eb675e0c2789c"), looks := false }, kinds := [], alts := [], laidByText := true, laidKinds := [.data, .pinned], laidTests := true, laidLooks := .later }
def FnExactAddressToCardSaid : Prop := Claim7.holds Tryd.pinned (.plain (OpenSpec.ofChange fnExactAddressToSpec)) fnExactAddressToCard

/-- THE TIED CARD OF 'laws.FnTagsIn'. -/
def fnTagsInCard : Claim7 := { stood := { row := fnTagsInRow, standIns := [], harness := (true, "3b1606e3a2515b34272ff1b99a553bec02c5af445cee6c76cb5eb675e0c2789c"), looks := false }, kinds := [], alts := [], laidByText := true, laidKinds := [.data, .pinned], laidTests := true, laidLooks := .later }
def FnTagsInCardSaid : Prop := Claim7.holds Tryd.pinned (.plain (OpenSpec.ofChange fnTagsInSpec)) fnTagsInCard

/-- THE TIED CARD OF 'laws.FnExactTagsIn'. -/
def fnExactTagsInCard : Claim7 := { stood := { row := fnExactTagsInRow, standIns := [], harness := (true, "3b1606e3a2515b34272ff1b99a553bec02c5af445cee6c76cb5eb675e0c2789c"), looks := false }, kinds := [], alts := [], laidByText := true, laidKinds := [.data, .pinned], laidTests := true, laidLooks := .later }
def FnExactTagsInCardSaid : Prop := Claim7.holds Tryd.pinned (.plain (OpenSpec.ofChange fnExactTagsInSpec)) fnExactTagsInCard

/-- THE SECOND FORM's CARD OF 'laws.FnMentionsIn'. -/
def fnMentionsInUptoCard : Claim7 := { stood := { row := fnMentionsInUptoRow, standIns := [], harness := (true, "3b1606e3a2515b34272ff1b99a553bec02c5af445cee6c76cb5eb675e0c2789c"), looks := false }, kinds := [], alts := [], laidByText := true, laidKinds := [.data, .pinned], laidTests := true, laidLooks := .later }
def FnMentionsInUptoCardSaid : Prop := Claim7.holds Tryd.pinned (.plain (OpenSpec.upto fnMentionsInSpec)) fnMentionsInUptoCard

/-- THE SECOND FORM's CARD OF 'laws.FnExactMentionsIn'. -/
def fnExactMentionsInUptoCard : Claim7 := { stood := { row := fnExactMentionsInUptoRow, standIns := [], harness := (true, "3b1606e3a2515b34272ff1b99a553bec02c5af445cee6c76cb5eb675e0c2789c"), looks := false }, kinds := [], alts := [], laidByText := true, laidKinds := [.data, .pinned], laidTests := true, laidLooks := .later }
def FnExactMentionsInUptoCardSaid : Prop := Claim7.holds Tryd.pinned (.plain (OpenSpec.upto fnExactMentionsInSpec)) fnExactMentionsInUptoCard

/-- THE SECOND FORM's CARD OF 'laws.FnAddressTo'. -/
def fnAddressToUptoCard : Claim7 := { stood := { row := fnAddressToUptoRow, standIns := [], harness := (true, "3b1606e3a2515b34272ff1b99a553bec02c5af445cee6c76cb5eb675e0c2789c"), looks := false }, kinds := [], alts := [], laidByText := true, laidKinds := [.data, .pinned], laidTests := true, laidLooks := .later }
def FnAddressToUptoCardSaid : Prop := Claim7.holds Tryd.pinned (.plain (OpenSpec.upto fnAddressToSpec)) fnAddressToUptoCard

/-- THE SECOND FORM's CARD OF 'laws.FnExactAddressTo'. -/
def fnExactAddressToUptoCard : Claim7 := { stood := { row := fnExactAddressToUptoRow, standIns := [], harness := (true, "3b1606e3a2515b34272ff1b99a553bec02c5af445cee6c76cb5eb675e0c2789c"), looks := false }, kinds := [], alts := [], laidByText := true, laidKinds := [.data, .pinned], laidTests := true, laidLooks := .later }
def FnExactAddressToUptoCardSaid : Prop := Claim7.holds Tryd.pinned (.plain (OpenSpec.upto fnExactAddressToSpec)) fnExactAddressToUptoCard

/-- THE SECOND FORM's CARD OF 'laws.FnTagsIn'. -/
def fnTagsInUptoCard : Claim7 := { stood := { row := fnTagsInUptoRow, standIns := [], harness := (true, "3b1606e3a2515b34272ff1b99a553bec02c5af445cee6c76cb5eb675e0c2789c"), looks := false }, kinds := [], alts := [], laidByText := true, laidKinds := [.data, .pinned], laidTests := true, laidLooks := .later }
def FnTagsInUptoCardSaid : Prop := Claim7.holds Tryd.pinned (.plain (OpenSpec.upto fnTagsInSpec)) fnTagsInUptoCard

/-- THE SECOND FORM's CARD OF 'laws.FnExactTagsIn'. -/
def fnExactTagsInUptoCard : Claim7 := { stood := { row := fnExactTagsInUptoRow, standIns := [], harness := (true, "3b1606e3a2515b34272ff1b99a553bec02c5af445cee6c76cb5eb675e0c2789c"), looks := false }, kinds := [], alts := [], laidByText := true, laidKinds := [.data, .pinned], laidTests := true, laidLooks := .later }
def FnExactTagsInUptoCardSaid : Prop := Claim7.holds Tryd.pinned (.plain (OpenSpec.upto fnExactTagsInSpec)) fnExactTagsInUptoCard
end Rows
end Go.Proofs.YtpbnbekkmifbpaaDoor
