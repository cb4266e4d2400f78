/-
  DERIVED. GIVEN WITH THE SEED: THE CARDS: each row of YtalclmngpfpkmaaDoorRows.lean that lists a variable, with what it lists TIED to the program's text (the seventh form; the later family's looks); each row that meets fmt, with fmt's text TOLD by the authors' own Lean function (tested against real Go, not proved from fmt's source: count such statements apart). THE CARD IS WHAT COUNTS. Prove the row's statement (the work); the ties are given (YtalclmngpfpkmaaDoorTie.lean); close each card by the builder's one call (the guide's Derived/Test/ToyasCard.lean, 'card_holds'). Laid BY PROGRAM, IN A SANDBOX (cutbox-door.mjs). By AI agents, Wed Nov 11 2026. No macro, syntax, notation, axiom, sorry.
-/
import Derived.Test.YtalclmngpfpkmaaDoorRows
import GoSem.ClaimSeven
namespace Go.Proofs.YtalclmngpfpkmaaDoor
namespace Rows

/-- THE TIED CARD OF 'laws.FnSalted'. -/
def fnSaltedCard : Claim7 := { stood := { row := fnSaltedRow, standIns := [], harness := (true, "020d1f72b9f7ec4070f8600aa8b92b7e258a7aedc13c52655b3265567a6790de"), looks := false }, kinds := [], alts := [], laidByText := true, laidKinds := [.data, .data, .data, .data, .pinned], laidTests := true, laidLooks := .later }
def FnSaltedCardSaid : Prop := Claim7.holds Tryd.pinned (.plain (OpenSpec.ofChange fnSaltedSpec)) fnSaltedCard

/-- THE TIED CARD OF 'laws.FnAudit'. -/
def fnAuditCard : Claim7 := { stood := { row := fnAuditRow, standIns := [], harness := (true, "020d1f72b9f7ec4070f8600aa8b92b7e258a7aedc13c52655b3265567a6790de"), looks := false }, kinds := [], alts := [], laidByText := true, laidKinds := [.data, .data, .data, .data, .pinned], laidTests := true, laidLooks := .later }
def FnAuditCardSaid : Prop := Claim7.holds Tryd.pinned (.plain (OpenSpec.ofChange fnAuditSpec)) fnAuditCard

/-- THE SECOND FORM's CARD OF 'laws.FnSalted'. -/
def fnSaltedUptoCard : Claim7 := { stood := { row := fnSaltedUptoRow, standIns := [], harness := (true, "020d1f72b9f7ec4070f8600aa8b92b7e258a7aedc13c52655b3265567a6790de"), looks := false }, kinds := [], alts := [], laidByText := true, laidKinds := [.data, .data, .data, .data, .pinned], laidTests := true, laidLooks := .later }
def FnSaltedUptoCardSaid : Prop := Claim7.holds Tryd.pinned (.plain (OpenSpec.upto fnSaltedSpec)) fnSaltedUptoCard

/-- THE SECOND FORM's CARD OF 'laws.FnAudit'. -/
def fnAuditUptoCard : Claim7 := { stood := { row := fnAuditUptoRow, standIns := [], harness := (true, "020d1f72b9f7ec4070f8600aa8b92b7e258a7aedc13c52655b3265567a6790de"), looks := false }, kinds := [], alts := [], laidByText := true, laidKinds := [.data, .data, .data, .data, .pinned], laidTests := true, laidLooks := .later }
def FnAuditUptoCardSaid : Prop := Claim7.holds Tryd.pinned (.plain (OpenSpec.upto fnAuditSpec)) fnAuditUptoCard
end Rows
end Go.Proofs.YtalclmngpfpkmaaDoor
