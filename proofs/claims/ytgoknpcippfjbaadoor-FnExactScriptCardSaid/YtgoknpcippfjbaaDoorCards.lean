/-
  DERIVED. GIVEN WITH THE SEED: THE CARDS: each row of YtgoknpcippfjbaaDoorRows.lean that lists a variable, with what it lists TIED to the program's text (the seventh form; the later family's looks); each row that meets fmt, with fmt's text TOLD by the authors' own Lean function (tested against real Go, not proved from fmt's source: count such statements apart). THE CARD IS WHAT COUNTS. Prove the row's statement (the work); the ties are given (YtgoknpcippfjbaaDoorTie.lean); close each card by the builder's one call (the guide's Derived/Test/ToyasCard.lean, 'card_holds'). Laid BY PROGRAM, IN A SANDBOX (cutbox-door.mjs). By AI agents, Wed Nov 11 2026. No macro, syntax, notation, axiom, sorry.
-/
import Derived.Test.YtgoknpcippfjbaaDoorRows
import GoSem.ClaimSeven
namespace Go.Proofs.YtgoknpcippfjbaaDoor
namespace Rows

/-- THE TIED CARD OF 'laws.FnExactScript'. -/
def fnExactScriptCard : Claim7 := { stood := { row := fnExactScriptRow, standIns := [], harness := (true, "ca07599dadb6f1c19377825365488acb3f80720d8031d65856091ca135041286"), looks := true }, kinds := [], alts := [], laidByText := true, laidKinds := [.data, .data, .data, .data, .sentinel, .sentinel, .pinned], laidTests := true, laidLooks := .later }
def FnExactScriptCardSaid : Prop := Claim7.holds Tryd.pinned (.plain (OpenSpec.ofChange fnExactScriptSpec)) fnExactScriptCard

/-- THE SECOND FORM's CARD OF 'laws.FnExactScript'. -/
def fnExactScriptUptoCard : Claim7 := { stood := { row := fnExactScriptUptoRow, standIns := [], harness := (true, "ca07599dadb6f1c19377825365488acb3f80720d8031d65856091ca135041286"), looks := true }, kinds := [], alts := [], laidByText := true, laidKinds := [.data, .data, .data, .data, .sentinel, .sentinel, .pinned], laidTests := true, laidLooks := .later }
def FnExactScriptUptoCardSaid : Prop := Claim7.holds Tryd.pinned (.plain (OpenSpec.upto fnExactScriptSpec)) fnExactScriptUptoCard
end Rows
end Go.Proofs.YtgoknpcippfjbaaDoor
