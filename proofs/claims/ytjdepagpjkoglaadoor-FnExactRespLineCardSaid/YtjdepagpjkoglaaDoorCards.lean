/-
  DERIVED. GIVEN WITH THE SEED: THE CARDS: each row of YtjdepagpjkoglaaDoorRows.lean that lists a variable, with what it lists TIED to the program's text (the seventh form; the later family's looks); each row that meets fmt, with fmt's text TOLD by the authors' own Lean function (tested against real Go, not proved from fmt's source: count such statements apart). THE CARD IS WHAT COUNTS. Prove the row's statement (the work); the ties are given (YtjdepagpjkoglaaDoorTie.lean); close each card by the builder's one call (the guide's Derived/Test/ToyasCard.lean, 'card_holds'). Laid BY PROGRAM, IN A SANDBOX (cutbox-door.mjs). By AI agents, Wed Nov 11 2026. No macro, syntax, notation, axiom, sorry.
-/
import Derived.Test.YtjdepagpjkoglaaDoorRows
import GoSem.ClaimSeven
namespace Go.Proofs.YtjdepagpjkoglaaDoor
namespace Rows

/-- THE TIED CARD OF 'laws.FnExactNoteText'. -/
def fnExactNoteTextCard : Claim7 := { stood := { row := fnExactNoteTextRow, standIns := [], harness := (true, "39a15db1e996192085b78956be1f16b322625969a66461f590518d5518eaeb0e"), looks := false }, kinds := [], alts := [], laidByText := true, laidKinds := [.data, .data, .data], laidTests := true, laidLooks := .later }
def FnExactNoteTextCardSaid : Prop := Claim7.holds Tryd.pinned (.plain (OpenSpec.ofChange fnExactNoteTextSpec)) fnExactNoteTextCard

/-- THE TIED CARD OF 'laws.FnExactSumOf'. -/
def fnExactSumOfCard : Claim7 := { stood := { row := fnExactSumOfRow, standIns := [], harness := (true, "39a15db1e996192085b78956be1f16b322625969a66461f590518d5518eaeb0e"), looks := false }, kinds := [], alts := [], laidByText := true, laidKinds := [.data, .data, .data], laidTests := true, laidLooks := .later }
def FnExactSumOfCardSaid : Prop := Claim7.holds Tryd.pinned (.plain (OpenSpec.ofChange fnExactSumOfSpec)) fnExactSumOfCard

/-- THE TIED CARD OF 'laws.FnExactRespLine'. -/
def fnExactRespLineCard : Claim7 := { stood := { row := fnExactRespLineRow, standIns := [], harness := (true, "39a15db1e996192085b78956be1f16b322625969a66461f590518d5518eaeb0e"), looks := false }, kinds := [], alts := [], laidByText := true, laidKinds := [.data, .data, .data], laidTests := true, laidLooks := .later }
def FnExactRespLineCardSaid : Prop := Claim7.holds Tryd.pinned (.plain (OpenSpec.ofChange fnExactRespLineSpec)) fnExactRespLineCard

/-- THE SECOND FORM's CARD OF 'laws.FnExactNoteText'. -/
def fnExactNoteTextUptoCard : Claim7 := { stood := { row := fnExactNoteTextUptoRow, standIns := [], harness := (true, "39a15db1e996192085b78956be1f16b322625969a66461f590518d5518eaeb0e"), looks := false }, kinds := [], alts := [], laidByText := true, laidKinds := [.data, .data, .data], laidTests := true, laidLooks := .later }
def FnExactNoteTextUptoCardSaid : Prop := Claim7.holds Tryd.pinned (.plain (OpenSpec.upto fnExactNoteTextSpec)) fnExactNoteTextUptoCard

/-- THE SECOND FORM's CARD OF 'laws.FnExactSumOf'. -/
def fnExactSumOfUptoCard : Claim7 := { stood := { row := fnExactSumOfUptoRow, standIns := [], harness := (true, "39a15db1e996192085b78956be1f16b322625969a66461f590518d5518eaeb0e"), looks := false }, kinds := [], alts := [], laidByText := true, laidKinds := [.data, .data, .data], laidTests := true, laidLooks := .later }
def FnExactSumOfUptoCardSaid : Prop := Claim7.holds Tryd.pinned (.plain (OpenSpec.upto fnExactSumOfSpec)) fnExactSumOfUptoCard

/-- THE SECOND FORM's CARD OF 'laws.FnExactRespLine'. -/
def fnExactRespLineUptoCard : Claim7 := { stood := { row := fnExactRespLineUptoRow, standIns := [], harness := (true, "39a15db1e996192085b78956be1f16b322625969a66461f590518d5518eaeb0e"), looks := false }, kinds := [], alts := [], laidByText := true, laidKinds := [.data, .data, .data], laidTests := true, laidLooks := .later }
def FnExactRespLineUptoCardSaid : Prop := Claim7.holds Tryd.pinned (.plain (OpenSpec.upto fnExactRespLineSpec)) fnExactRespLineUptoCard
end Rows
end Go.Proofs.YtjdepagpjkoglaaDoor
