/-
  DERIVED. GIVEN WITH THE SEED: THE CARDS: each row of YtpbofdbleajagaaDoorRows.lean that lists a variable, with what it lists TIED to the program's text (the seventh form; the later family's looks); each row that meets fmt, with fmt's text TOLD by the authors' own Lean function (tested against real Go, not proved from fmt's source: count such statements apart). THE CARD IS WHAT COUNTS. Prove the row's statement (the work); the ties are given (YtpbofdbleajagaaDoorTie.lean); close each card by the builder's one call (the guide's Derived/Test/ToyasCard.lean, 'card_holds'). Laid BY PROGRAM, IN A SANDBOX (cutbox-door.mjs). By AI agents, Wed Nov 11 2026. No macro, syntax, notation, axiom, sorry.
-/
import Derived.Test.YtpbofdbleajagaaDoorRows
import GoSem.ClaimSeven
namespace Go.Proofs.YtpbofdbleajagaaDoor
namespace Rows

/-- THE TIED CARD OF 'laws.FnExactParseHex'. -/
def fnExactParseHexCard : Claim7 := { stood := { row := fnExactParseHexRow, standIns := [], harness := (true, "0b24da51e05a3accdcde159247e4e701391400777f1d9e1eb828d85613f4ccae"), looks := true }, kinds := [], alts := [], laidByText := true, laidKinds := [.data, .data, .data, .sentinel, .sentinel], laidTests := true, laidLooks := .later }
def FnExactParseHexCardSaid : Prop := Claim7.holds Tryd.pinned (.plain (OpenSpec.ofChange fnExactParseHexSpec)) fnExactParseHexCard

/-- THE TIED CARD OF 'laws.FnExactChainOk'. -/
def fnExactChainOkCard : Claim7 := { stood := { row := fnExactChainOkRow, standIns := [], harness := (true, "0b24da51e05a3accdcde159247e4e701391400777f1d9e1eb828d85613f4ccae"), looks := true }, kinds := [], alts := [], laidByText := true, laidKinds := [.data, .pinned], laidTests := true, laidLooks := .later }
def FnExactChainOkCardSaid : Prop := Claim7.holds Tryd.pinned (.plain (OpenSpec.ofChange fnExactChainOkSpec)) fnExactChainOkCard

/-- THE TIED CARD OF 'laws.FnExactHeadOf'. -/
def fnExactHeadOfCard : Claim7 := { stood := { row := fnExactHeadOfRow, standIns := [], harness := (true, "0b24da51e05a3accdcde159247e4e701391400777f1d9e1eb828d85613f4ccae"), looks := true }, kinds := [], alts := [], laidByText := true, laidKinds := [.data, .pinned], laidTests := true, laidLooks := .later }
def FnExactHeadOfCardSaid : Prop := Claim7.holds Tryd.pinned (.plain (OpenSpec.ofChange fnExactHeadOfSpec)) fnExactHeadOfCard

/-- THE TIED CARD OF 'laws.FnExactPeekWrap'. -/
def fnExactPeekWrapCard : Claim7 := { stood := { row := fnExactPeekWrapRow, standIns := [], harness := (true, "0b24da51e05a3accdcde159247e4e701391400777f1d9e1eb828d85613f4ccae"), looks := true }, kinds := [], alts := [], laidByText := true, laidKinds := [.data, .pinned], laidTests := true, laidLooks := .later }
def FnExactPeekWrapCardSaid : Prop := Claim7.holds Tryd.pinned (.plain (OpenSpec.ofChange fnExactPeekWrapSpec)) fnExactPeekWrapCard

/-- THE TIED CARD OF 'laws.FnExactNotesOf'. -/
def fnExactNotesOfCard : Claim7 := { stood := { row := fnExactNotesOfRow, standIns := [], harness := (true, "0b24da51e05a3accdcde159247e4e701391400777f1d9e1eb828d85613f4ccae"), looks := true }, kinds := [], alts := [], laidByText := true, laidKinds := [.data, .pinned], laidTests := true, laidLooks := .later }
def FnExactNotesOfCardSaid : Prop := Claim7.holds Tryd.pinned (.plain (OpenSpec.ofChange fnExactNotesOfSpec)) fnExactNotesOfCard

/-- THE TIED CARD OF 'laws.FnExactSweepWraps'. -/
def fnExactSweepWrapsCard : Claim7 := { stood := { row := fnExactSweepWrapsRow, standIns := [], harness := (true, "0b24da51e05a3accdcde159247e4e701391400777f1d9e1eb828d85613f4ccae"), looks := true }, kinds := [], alts := [], laidByText := true, laidKinds := [.data, .pinned], laidTests := true, laidLooks := .later }
def FnExactSweepWrapsCardSaid : Prop := Claim7.holds Tryd.pinned (.plain (OpenSpec.ofChange fnExactSweepWrapsSpec)) fnExactSweepWrapsCard

/-- THE TIED CARD OF 'laws.FnExactSalted'. -/
def fnExactSaltedCard : Claim7 := { stood := { row := fnExactSaltedRow, standIns := [], harness := (true, "0b24da51e05a3accdcde159247e4e701391400777f1d9e1eb828d85613f4ccae"), looks := true }, kinds := [], alts := [], laidByText := true, laidKinds := [.data, .data, .data, .data, .pinned], laidTests := true, laidLooks := .later }
def FnExactSaltedCardSaid : Prop := Claim7.holds Tryd.pinned (.plain (OpenSpec.ofChange fnExactSaltedSpec)) fnExactSaltedCard

/-- THE TIED CARD OF 'laws.FnExactPutWrap'. -/
def fnExactPutWrapCard : Claim7 := { stood := { row := fnExactPutWrapRow, standIns := [], harness := (true, "0b24da51e05a3accdcde159247e4e701391400777f1d9e1eb828d85613f4ccae"), looks := true }, kinds := [], alts := [], laidByText := true, laidKinds := [.data, .pinned], laidTests := true, laidLooks := .later }
def FnExactPutWrapCardSaid : Prop := Claim7.holds Tryd.pinned (.plain (OpenSpec.ofChange fnExactPutWrapSpec)) fnExactPutWrapCard

/-- THE TIED CARD OF 'laws.FnExactRekeyRack'. -/
def fnExactRekeyRackCard : Claim7 := { stood := { row := fnExactRekeyRackRow, standIns := [], harness := (true, "0b24da51e05a3accdcde159247e4e701391400777f1d9e1eb828d85613f4ccae"), looks := true }, kinds := [], alts := [], laidByText := true, laidKinds := [.data, .pinned], laidTests := true, laidLooks := .later }
def FnExactRekeyRackCardSaid : Prop := Claim7.holds Tryd.pinned (.plain (OpenSpec.ofChange fnExactRekeyRackSpec)) fnExactRekeyRackCard

/-- THE SECOND FORM's CARD OF 'laws.FnExactParseHex'. -/
def fnExactParseHexUptoCard : Claim7 := { stood := { row := fnExactParseHexUptoRow, standIns := [], harness := (true, "0b24da51e05a3accdcde159247e4e701391400777f1d9e1eb828d85613f4ccae"), looks := true }, kinds := [], alts := [], laidByText := true, laidKinds := [.data, .data, .data, .sentinel, .sentinel], laidTests := true, laidLooks := .later }
def FnExactParseHexUptoCardSaid : Prop := Claim7.holds Tryd.pinned (.plain (OpenSpec.upto fnExactParseHexSpec)) fnExactParseHexUptoCard

/-- THE SECOND FORM's CARD OF 'laws.FnExactChainOk'. -/
def fnExactChainOkUptoCard : Claim7 := { stood := { row := fnExactChainOkUptoRow, standIns := [], harness := (true, "0b24da51e05a3accdcde159247e4e701391400777f1d9e1eb828d85613f4ccae"), looks := true }, kinds := [], alts := [], laidByText := true, laidKinds := [.data, .pinned], laidTests := true, laidLooks := .later }
def FnExactChainOkUptoCardSaid : Prop := Claim7.holds Tryd.pinned (.plain (OpenSpec.upto fnExactChainOkSpec)) fnExactChainOkUptoCard

/-- THE SECOND FORM's CARD OF 'laws.FnExactHeadOf'. -/
def fnExactHeadOfUptoCard : Claim7 := { stood := { row := fnExactHeadOfUptoRow, standIns := [], harness := (true, "0b24da51e05a3accdcde159247e4e701391400777f1d9e1eb828d85613f4ccae"), looks := true }, kinds := [], alts := [], laidByText := true, laidKinds := [.data, .pinned], laidTests := true, laidLooks := .later }
def FnExactHeadOfUptoCardSaid : Prop := Claim7.holds Tryd.pinned (.plain (OpenSpec.upto fnExactHeadOfSpec)) fnExactHeadOfUptoCard

/-- THE SECOND FORM's CARD OF 'laws.FnExactPeekWrap'. -/
def fnExactPeekWrapUptoCard : Claim7 := { stood := { row := fnExactPeekWrapUptoRow, standIns := [], harness := (true, "0b24da51e05a3accdcde159247e4e701391400777f1d9e1eb828d85613f4ccae"), looks := true }, kinds := [], alts := [], laidByText := true, laidKinds := [.data, .pinned], laidTests := true, laidLooks := .later }
def FnExactPeekWrapUptoCardSaid : Prop := Claim7.holds Tryd.pinned (.plain (OpenSpec.upto fnExactPeekWrapSpec)) fnExactPeekWrapUptoCard

/-- THE SECOND FORM's CARD OF 'laws.FnExactNotesOf'. -/
def fnExactNotesOfUptoCard : Claim7 := { stood := { row := fnExactNotesOfUptoRow, standIns := [], harness := (true, "0b24da51e05a3accdcde159247e4e701391400777f1d9e1eb828d85613f4ccae"), looks := true }, kinds := [], alts := [], laidByText := true, laidKinds := [.data, .pinned], laidTests := true, laidLooks := .later }
def FnExactNotesOfUptoCardSaid : Prop := Claim7.holds Tryd.pinned (.plain (OpenSpec.upto fnExactNotesOfSpec)) fnExactNotesOfUptoCard

/-- THE SECOND FORM's CARD OF 'laws.FnExactSweepWraps'. -/
def fnExactSweepWrapsUptoCard : Claim7 := { stood := { row := fnExactSweepWrapsUptoRow, standIns := [], harness := (true, "0b24da51e05a3accdcde159247e4e701391400777f1d9e1eb828d85613f4ccae"), looks := true }, kinds := [], alts := [], laidByText := true, laidKinds := [.data, .pinned], laidTests := true, laidLooks := .later }
def FnExactSweepWrapsUptoCardSaid : Prop := Claim7.holds Tryd.pinned (.plain (OpenSpec.upto fnExactSweepWrapsSpec)) fnExactSweepWrapsUptoCard

/-- THE SECOND FORM's CARD OF 'laws.FnExactSalted'. -/
def fnExactSaltedUptoCard : Claim7 := { stood := { row := fnExactSaltedUptoRow, standIns := [], harness := (true, "0b24da51e05a3accdcde159247e4e701391400777f1d9e1eb828d85613f4ccae"), looks := true }, kinds := [], alts := [], laidByText := true, laidKinds := [.data, .data, .data, .data, .pinned], laidTests := true, laidLooks := .later }
def FnExactSaltedUptoCardSaid : Prop := Claim7.holds Tryd.pinned (.plain (OpenSpec.upto fnExactSaltedSpec)) fnExactSaltedUptoCard

/-- THE SECOND FORM's CARD OF 'laws.FnExactPutWrap'. -/
def fnExactPutWrapUptoCard : Claim7 := { stood := { row := fnExactPutWrapUptoRow, standIns := [], harness := (true, "0b24da51e05a3accdcde159247e4e701391400777f1d9e1eb828d85613f4ccae"), looks := true }, kinds := [], alts := [], laidByText := true, laidKinds := [.data, .pinned], laidTests := true, laidLooks := .later }
def FnExactPutWrapUptoCardSaid : Prop := Claim7.holds Tryd.pinned (.plain (OpenSpec.upto fnExactPutWrapSpec)) fnExactPutWrapUptoCard

/-- THE SECOND FORM's CARD OF 'laws.FnExactRekeyRack'. -/
def fnExactRekeyRackUptoCard : Claim7 := { stood := { row := fnExactRekeyRackUptoRow, standIns := [], harness := (true, "0b24da51e05a3accdcde159247e4e701391400777f1d9e1eb828d85613f4ccae"), looks := true }, kinds := [], alts := [], laidByText := true, laidKinds := [.data, .pinned], laidTests := true, laidLooks := .later }
def FnExactRekeyRackUptoCardSaid : Prop := Claim7.holds Tryd.pinned (.plain (OpenSpec.upto fnExactRekeyRackSpec)) fnExactRekeyRackUptoCard
end Rows
end Go.Proofs.YtpbofdbleajagaaDoor
