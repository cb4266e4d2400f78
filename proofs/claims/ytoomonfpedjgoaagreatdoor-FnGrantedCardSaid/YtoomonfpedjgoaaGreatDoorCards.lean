/-
  DERIVED. GIVEN WITH THE SEED: THE CARDS: each row of YtoomonfpedjgoaaGreatDoorRows.lean that lists a variable, with what it lists TIED to the program's text (the seventh form; the later family's looks); each row that meets fmt, with fmt's text TOLD by the authors' own Lean function (tested against real Go, not proved from fmt's source: count such statements apart). THE CARD IS WHAT COUNTS. Prove the row's statement (the work); the ties are given (YtoomonfpedjgoaaGreatDoorTie.lean); close each card by the builder's one call (the guide's Derived/Test/ToyasCard.lean, 'card_holds'). Laid BY PROGRAM, IN A SANDBOX (cutbox-door.mjs). By AI agents, Wed Nov 11 2026. No macro, syntax, notation, axiom, sorry.
-/
import Derived.Test.YtoomonfpedjgoaaGreatDoorRows
import GoSem.ClaimSeven
namespace Go.Proofs.YtoomonfpedjgoaaGreatDoor
namespace Rows

/-- THE TIED CARD OF 'laws.FnNoStray'. -/
def fnNoStrayCard : Claim7 := { stood := { row := fnNoStrayRow, standIns := [], harness := (true, "c16149058364d18a5fa99fec712df8e15e80ebd0cde14ab821fdd20537edf261"), looks := false }, kinds := [], alts := [], laidByText := true, laidKinds := [.data, .data, .data, .data, .pinned], laidTests := true, laidLooks := .later }
def FnNoStrayCardSaid : Prop := Claim7.holds Tryz.pinned (.plain (OpenSpec.ofChange fnNoStraySpec)) fnNoStrayCard

/-- THE TIED CARD OF 'laws.FnGranted'. -/
def fnGrantedCard : Claim7 := { stood := { row := fnGrantedRow, standIns := [], harness := (true, "c16149058364d18a5fa99fec712df8e15e80ebd0cde14ab821fdd20537edf261"), looks := false }, kinds := [], alts := [], laidByText := true, laidKinds := [.data, .data, .data, .data, .pinned], laidTests := true, laidLooks := .later }
def FnGrantedCardSaid : Prop := Claim7.holds Tryz.pinned (.plain (OpenSpec.ofChange fnGrantedSpec)) fnGrantedCard

/-- THE SECOND FORM's CARD OF 'laws.FnNoStray'. -/
def fnNoStrayUptoCard : Claim7 := { stood := { row := fnNoStrayUptoRow, standIns := [], harness := (true, "c16149058364d18a5fa99fec712df8e15e80ebd0cde14ab821fdd20537edf261"), looks := false }, kinds := [], alts := [], laidByText := true, laidKinds := [.data, .data, .data, .data, .pinned], laidTests := true, laidLooks := .later }
def FnNoStrayUptoCardSaid : Prop := Claim7.holds Tryz.pinned (.plain (OpenSpec.upto fnNoStraySpec)) fnNoStrayUptoCard

/-- THE SECOND FORM's CARD OF 'laws.FnGranted'. -/
def fnGrantedUptoCard : Claim7 := { stood := { row := fnGrantedUptoRow, standIns := [], harness := (true, "c16149058364d18a5fa99fec712df8e15e80ebd0cde14ab821fdd20537edf261"), looks := false }, kinds := [], alts := [], laidByText := true, laidKinds := [.data, .data, .data, .data, .pinned], laidTests := true, laidLooks := .later }
def FnGrantedUptoCardSaid : Prop := Claim7.holds Tryz.pinned (.plain (OpenSpec.upto fnGrantedSpec)) fnGrantedUptoCard
end Rows
end Go.Proofs.YtoomonfpedjgoaaGreatDoor
