/-
  DERIVED. GIVEN WITH THE SEED: THE CARDS: each row of YtpboimnecoakiaaDoorRows.lean that lists a variable, with what it lists TIED to the program's text (the seventh form; the later family's looks); each row that meets fmt, with fmt's text TOLD by the authors' own Lean function (tested against real Go, not proved from fmt's source: count such statements apart). THE CARD IS WHAT COUNTS. Prove the row's statement (the work); the ties are given (YtpboimnecoakiaaDoorTie.lean); close each card by the builder's one call (the guide's Derived/Test/ToyasCard.lean, 'card_holds'). Laid BY PROGRAM, IN A SANDBOX (cutbox-door.mjs). By AI agents, Wed Nov 11 2026. No macro, syntax, notation, axiom, sorry.
-/
import Derived.Test.YtpboimnecoakiaaDoorRows
import GoSem.ClaimSeven
namespace Go.Proofs.YtpboimnecoakiaaDoor
namespace Rows

/-- THE TIED CARD OF 'laws.FnExactBreakOf'. -/
def fnExactBreakOfCard : Claim7 := { stood := { row := fnExactBreakOfRow, standIns := [], harness := (true, "364554da03c623b6f5bd36fa496e5efa9fafdb21279965848e4609b7d2707850"), looks := true }, kinds := [], alts := [], laidByText := true, laidKinds := [.data, .data, .data, .data, .pinned], laidTests := true, laidLooks := .later }
def FnExactBreakOfCardSaid : Prop := Claim7.holds Tryd.pinned (.plain (OpenSpec.ofChange fnExactBreakOfSpec)) fnExactBreakOfCard

/-- THE TIED CARD OF 'laws.FnExactFollows'. -/
def fnExactFollowsCard : Claim7 := { stood := { row := fnExactFollowsRow, standIns := [], harness := (true, "364554da03c623b6f5bd36fa496e5efa9fafdb21279965848e4609b7d2707850"), looks := true }, kinds := [], alts := [], laidByText := true, laidKinds := [.data, .data, .data, .data, .pinned], laidTests := true, laidLooks := .later }
def FnExactFollowsCardSaid : Prop := Claim7.holds Tryd.pinned (.plain (OpenSpec.ofChange fnExactFollowsSpec)) fnExactFollowsCard

/-- THE TIED CARD OF 'laws.FnExactAddNote'. -/
def fnExactAddNoteCard : Claim7 := { stood := { row := fnExactAddNoteRow, standIns := [], harness := (true, "364554da03c623b6f5bd36fa496e5efa9fafdb21279965848e4609b7d2707850"), looks := true }, kinds := [], alts := [], laidByText := true, laidKinds := [.data, .data, .data, .data, .pinned], laidTests := true, laidLooks := .later }
def FnExactAddNoteCardSaid : Prop := Claim7.holds Tryd.pinned (.plain (OpenSpec.ofChange fnExactAddNoteSpec)) fnExactAddNoteCard

/-- THE TIED CARD OF 'laws.FnExactOpenWrap'. -/
def fnExactOpenWrapCard : Claim7 := { stood := { row := fnExactOpenWrapRow, standIns := [], harness := (true, "364554da03c623b6f5bd36fa496e5efa9fafdb21279965848e4609b7d2707850"), looks := true }, kinds := [], alts := [], laidByText := true, laidKinds := [.data, .pinned], laidTests := true, laidLooks := .later }
def FnExactOpenWrapCardSaid : Prop := Claim7.holds Tryd.pinned (.plain (OpenSpec.ofChange fnExactOpenWrapSpec)) fnExactOpenWrapCard

/-- THE TIED CARD OF 'laws.FnExactAgainWrap'. -/
def fnExactAgainWrapCard : Claim7 := { stood := { row := fnExactAgainWrapRow, standIns := [], harness := (true, "364554da03c623b6f5bd36fa496e5efa9fafdb21279965848e4609b7d2707850"), looks := true }, kinds := [], alts := [], laidByText := true, laidKinds := [.data, .pinned], laidTests := true, laidLooks := .later }
def FnExactAgainWrapCardSaid : Prop := Claim7.holds Tryd.pinned (.plain (OpenSpec.ofChange fnExactAgainWrapSpec)) fnExactAgainWrapCard

/-- THE TIED CARD OF 'laws.FnExactParseReq'. -/
def fnExactParseReqCard : Claim7 := { stood := { row := fnExactParseReqRow, standIns := [], harness := (true, "364554da03c623b6f5bd36fa496e5efa9fafdb21279965848e4609b7d2707850"), looks := true }, kinds := [], alts := [], laidByText := true, laidKinds := [.data, .data, .data, .data, .sentinel, .sentinel, .pinned], laidTests := true, laidLooks := .later }
def FnExactParseReqCardSaid : Prop := Claim7.holds Tryd.pinned (.plain (OpenSpec.ofChange fnExactParseReqSpec)) fnExactParseReqCard

/-- THE TIED CARD OF 'laws.FnExactReqLine'. -/
def fnExactReqLineCard : Claim7 := { stood := { row := fnExactReqLineRow, standIns := [], harness := (true, "364554da03c623b6f5bd36fa496e5efa9fafdb21279965848e4609b7d2707850"), looks := true }, kinds := [], alts := [], laidByText := true, laidKinds := [.data, .data, .data, .data, .sentinel, .sentinel, .pinned], laidTests := true, laidLooks := .later }
def FnExactReqLineCardSaid : Prop := Claim7.holds Tryd.pinned (.plain (OpenSpec.ofChange fnExactReqLineSpec)) fnExactReqLineCard

/-- THE TIED CARD OF 'laws.FnExactScript'. -/
def fnExactScriptCard : Claim7 := { stood := { row := fnExactScriptRow, standIns := [], harness := (true, "364554da03c623b6f5bd36fa496e5efa9fafdb21279965848e4609b7d2707850"), looks := true }, kinds := [], alts := [], laidByText := true, laidKinds := [.data, .data, .data, .data, .sentinel, .sentinel, .pinned], laidTests := true, laidLooks := .later }
def FnExactScriptCardSaid : Prop := Claim7.holds Tryd.pinned (.plain (OpenSpec.ofChange fnExactScriptSpec)) fnExactScriptCard

/-- THE SECOND FORM's CARD OF 'laws.FnExactBreakOf'. -/
def fnExactBreakOfUptoCard : Claim7 := { stood := { row := fnExactBreakOfUptoRow, standIns := [], harness := (true, "364554da03c623b6f5bd36fa496e5efa9fafdb21279965848e4609b7d2707850"), looks := true }, kinds := [], alts := [], laidByText := true, laidKinds := [.data, .data, .data, .data, .pinned], laidTests := true, laidLooks := .later }
def FnExactBreakOfUptoCardSaid : Prop := Claim7.holds Tryd.pinned (.plain (OpenSpec.upto fnExactBreakOfSpec)) fnExactBreakOfUptoCard

/-- THE SECOND FORM's CARD OF 'laws.FnExactFollows'. -/
def fnExactFollowsUptoCard : Claim7 := { stood := { row := fnExactFollowsUptoRow, standIns := [], harness := (true, "364554da03c623b6f5bd36fa496e5efa9fafdb21279965848e4609b7d2707850"), looks := true }, kinds := [], alts := [], laidByText := true, laidKinds := [.data, .data, .data, .data, .pinned], laidTests := true, laidLooks := .later }
def FnExactFollowsUptoCardSaid : Prop := Claim7.holds Tryd.pinned (.plain (OpenSpec.upto fnExactFollowsSpec)) fnExactFollowsUptoCard

/-- THE SECOND FORM's CARD OF 'laws.FnExactAddNote'. -/
def fnExactAddNoteUptoCard : Claim7 := { stood := { row := fnExactAddNoteUptoRow, standIns := [], harness := (true, "364554da03c623b6f5bd36fa496e5efa9fafdb21279965848e4609b7d2707850"), looks := true }, kinds := [], alts := [], laidByText := true, laidKinds := [.data, .data, .data, .data, .pinned], laidTests := true, laidLooks := .later }
def FnExactAddNoteUptoCardSaid : Prop := Claim7.holds Tryd.pinned (.plain (OpenSpec.upto fnExactAddNoteSpec)) fnExactAddNoteUptoCard

/-- THE SECOND FORM's CARD OF 'laws.FnExactOpenWrap'. -/
def fnExactOpenWrapUptoCard : Claim7 := { stood := { row := fnExactOpenWrapUptoRow, standIns := [], harness := (true, "364554da03c623b6f5bd36fa496e5efa9fafdb21279965848e4609b7d2707850"), looks := true }, kinds := [], alts := [], laidByText := true, laidKinds := [.data, .pinned], laidTests := true, laidLooks := .later }
def FnExactOpenWrapUptoCardSaid : Prop := Claim7.holds Tryd.pinned (.plain (OpenSpec.upto fnExactOpenWrapSpec)) fnExactOpenWrapUptoCard

/-- THE SECOND FORM's CARD OF 'laws.FnExactAgainWrap'. -/
def fnExactAgainWrapUptoCard : Claim7 := { stood := { row := fnExactAgainWrapUptoRow, standIns := [], harness := (true, "364554da03c623b6f5bd36fa496e5efa9fafdb21279965848e4609b7d2707850"), looks := true }, kinds := [], alts := [], laidByText := true, laidKinds := [.data, .pinned], laidTests := true, laidLooks := .later }
def FnExactAgainWrapUptoCardSaid : Prop := Claim7.holds Tryd.pinned (.plain (OpenSpec.upto fnExactAgainWrapSpec)) fnExactAgainWrapUptoCard

/-- THE SECOND FORM's CARD OF 'laws.FnExactParseReq'. -/
def fnExactParseReqUptoCard : Claim7 := { stood := { row := fnExactParseReqUptoRow, standIns := [], harness := (true, "364554da03c623b6f5bd36fa496e5efa9fafdb21279965848e4609b7d2707850"), looks := true }, kinds := [], alts := [], laidByText := true, laidKinds := [.data, .data, .data, .data, .sentinel, .sentinel, .pinned], laidTests := true, laidLooks := .later }
def FnExactParseReqUptoCardSaid : Prop := Claim7.holds Tryd.pinned (.plain (OpenSpec.upto fnExactParseReqSpec)) fnExactParseReqUptoCard

/-- THE SECOND FORM's CARD OF 'laws.FnExactReqLine'. -/
def fnExactReqLineUptoCard : Claim7 := { stood := { row := fnExactReqLineUptoRow, standIns := [], harness := (true, "364554da03c623b6f5bd36fa496e5efa9fafdb21279965848e4609b7d2707850"), looks := true }, kinds := [], alts := [], laidByText := true, laidKinds := [.data, .data, .data, .data, .sentinel, .sentinel, .pinned], laidTests := true, laidLooks := .later }
def FnExactReqLineUptoCardSaid : Prop := Claim7.holds Tryd.pinned (.plain (OpenSpec.upto fnExactReqLineSpec)) fnExactReqLineUptoCard

/-- THE SECOND FORM's CARD OF 'laws.FnExactScript'. -/
def fnExactScriptUptoCard : Claim7 := { stood := { row := fnExactScriptUptoRow, standIns := [], harness := (true, "364554da03c623b6f5bd36fa496e5efa9fafdb21279965848e4609b7d2707850"), looks := true }, kinds := [], alts := [], laidByText := true, laidKinds := [.data, .data, .data, .data, .sentinel, .sentinel, .pinned], laidTests := true, laidLooks := .later }
def FnExactScriptUptoCardSaid : Prop := Claim7.holds Tryd.pinned (.plain (OpenSpec.upto fnExactScriptSpec)) fnExactScriptUptoCard
end Rows
end Go.Proofs.YtpboimnecoakiaaDoor
