/-
  DERIVED. GIVEN WITH THE SEED: THE CARDS: each row of YtmihpclfdicfkaaDoorRows.lean that lists a variable, with what it lists TIED to the program's text (the seventh form; the later family's looks); each row that meets fmt, with fmt's text TOLD by the authors' own Lean function (tested against real Go, not proved from fmt's source: count such statements apart). THE CARD IS WHAT COUNTS. Prove the row's statement (the work); the ties are given (YtmihpclfdicfkaaDoorTie.lean); close each card by the builder's one call (the guide's Derived/Test/ToyasCard.lean, 'card_holds'). Laid BY PROGRAM, IN A SANDBOX (cutbox-door.mjs). By AI agents, Wed Nov 11 2026. No macro, syntax, notation, axiom, sorry.
-/
import Derived.Test.YtmihpclfdicfkaaDoorRows
import GoSem.ClaimSeven
namespace Go.Proofs.YtmihpclfdicfkaaDoor
namespace Rows

/-- THE TIED CARD OF 'laws.FnExactSweepWraps'. -/
def fnExactSweepWrapsCard : Claim7 := { stood := { row := fnExactSweepWrapsRow, standIns := [], harness := (true, "09d99fda11063b0005d2c542053f7acefa334ab6475bb0d64316bdd36bcaab43"), looks := false }, kinds := [], alts := [], laidByText := true, laidKinds := [.data, .pinned], laidTests := true, laidLooks := .later }
def FnExactSweepWrapsCardSaid : Prop := Claim7.holds Tryd.pinned (.plain (OpenSpec.ofChange fnExactSweepWrapsSpec)) fnExactSweepWrapsCard

/-- THE TIED CARD OF 'laws.FnWraps'. -/
def fnWrapsCard : Claim7 := { stood := { row := fnWrapsRow, standIns := [], harness := (true, "09d99fda11063b0005d2c542053f7acefa334ab6475bb0d64316bdd36bcaab43"), looks := false }, kinds := [], alts := [], laidByText := true, laidKinds := [.data, .pinned], laidTests := true, laidLooks := .later }
def FnWrapsCardSaid : Prop := Claim7.holds Tryd.pinned (.plain (OpenSpec.ofChange fnWrapsSpec)) fnWrapsCard

/-- THE SECOND FORM's CARD OF 'laws.FnExactSweepWraps'. -/
def fnExactSweepWrapsUptoCard : Claim7 := { stood := { row := fnExactSweepWrapsUptoRow, standIns := [], harness := (true, "09d99fda11063b0005d2c542053f7acefa334ab6475bb0d64316bdd36bcaab43"), looks := false }, kinds := [], alts := [], laidByText := true, laidKinds := [.data, .pinned], laidTests := true, laidLooks := .later }
def FnExactSweepWrapsUptoCardSaid : Prop := Claim7.holds Tryd.pinned (.plain (OpenSpec.upto fnExactSweepWrapsSpec)) fnExactSweepWrapsUptoCard

/-- THE SECOND FORM's CARD OF 'laws.FnWraps'. -/
def fnWrapsUptoCard : Claim7 := { stood := { row := fnWrapsUptoRow, standIns := [], harness := (true, "09d99fda11063b0005d2c542053f7acefa334ab6475bb0d64316bdd36bcaab43"), looks := false }, kinds := [], alts := [], laidByText := true, laidKinds := [.data, .pinned], laidTests := true, laidLooks := .later }
def FnWrapsUptoCardSaid : Prop := Claim7.holds Tryd.pinned (.plain (OpenSpec.upto fnWrapsSpec)) fnWrapsUptoCard
end Rows
end Go.Proofs.YtmihpclfdicfkaaDoor
