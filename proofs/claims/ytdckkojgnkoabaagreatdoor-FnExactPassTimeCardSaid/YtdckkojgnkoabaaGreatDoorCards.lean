/-
  DERIVED. GIVEN WITH THE SEED: THE CARDS: each row of YtdckkojgnkoabaaGreatDoorRows.lean that lists a variable, with what it lists TIED to the program's text (the seventh form; the later family's looks); each row that meets fmt, with fmt's text TOLD by the authors' own Lean function (tested against real Go, not proved from fmt's source: count such statements apart). THE CARD IS WHAT COUNTS. Prove the row's statement (the work); the ties are given (YtdckkojgnkoabaaGreatDoorTie.lean); close each card by the builder's one call (the guide's Derived/Test/ToyasCard.lean, 'card_holds'). Laid BY PROGRAM, IN A SANDBOX (cutbox-door.mjs). By AI agents, Wed Nov 11 2026. No macro, syntax, notation, axiom, sorry.
-/
import Derived.Test.YtdckkojgnkoabaaGreatDoorRows
import GoSem.ClaimSeven
namespace Go.Proofs.YtdckkojgnkoabaaGreatDoor
namespace Rows

/-- THE TIED CARD OF 'laws.FnExactWorldOk'. -/
def fnExactWorldOkCard : Claim7 := { stood := { row := fnExactWorldOkRow, standIns := [], harness := (true, "56784202b6784ad1f71e3c976834fbc0411c9aaffc97d86a2423723a54d2daec"), looks := false }, kinds := [], alts := [], laidByText := true, laidKinds := [.data, .pinned], laidTests := true, laidLooks := .later }
def FnExactWorldOkCardSaid : Prop := Claim7.holds Tryz.pinned (.plain (OpenSpec.ofChange fnExactWorldOkSpec)) fnExactWorldOkCard

/-- THE TIED CARD OF 'laws.FnExactStrays'. -/
def fnExactStraysCard : Claim7 := { stood := { row := fnExactStraysRow, standIns := [], harness := (true, "56784202b6784ad1f71e3c976834fbc0411c9aaffc97d86a2423723a54d2daec"), looks := false }, kinds := [], alts := [], laidByText := true, laidKinds := [.data, .pinned], laidTests := true, laidLooks := .later }
def FnExactStraysCardSaid : Prop := Claim7.holds Tryz.pinned (.plain (OpenSpec.ofChange fnExactStraysSpec)) fnExactStraysCard

/-- THE TIED CARD OF 'laws.FnExactLiveLeases'. -/
def fnExactLiveLeasesCard : Claim7 := { stood := { row := fnExactLiveLeasesRow, standIns := [], harness := (true, "56784202b6784ad1f71e3c976834fbc0411c9aaffc97d86a2423723a54d2daec"), looks := false }, kinds := [], alts := [], laidByText := true, laidKinds := [.data, .pinned], laidTests := true, laidLooks := .later }
def FnExactLiveLeasesCardSaid : Prop := Claim7.holds Tryz.pinned (.plain (OpenSpec.ofChange fnExactLiveLeasesSpec)) fnExactLiveLeasesCard

/-- THE TIED CARD OF 'laws.FnExactGrantLease'. -/
def fnExactGrantLeaseCard : Claim7 := { stood := { row := fnExactGrantLeaseRow, standIns := [], harness := (true, "56784202b6784ad1f71e3c976834fbc0411c9aaffc97d86a2423723a54d2daec"), looks := false }, kinds := [], alts := [], laidByText := true, laidKinds := [.data, .pinned], laidTests := true, laidLooks := .later }
def FnExactGrantLeaseCardSaid : Prop := Claim7.holds Tryz.pinned (.plain (OpenSpec.ofChange fnExactGrantLeaseSpec)) fnExactGrantLeaseCard

/-- THE TIED CARD OF 'laws.FnExactCutLease'. -/
def fnExactCutLeaseCard : Claim7 := { stood := { row := fnExactCutLeaseRow, standIns := [], harness := (true, "56784202b6784ad1f71e3c976834fbc0411c9aaffc97d86a2423723a54d2daec"), looks := false }, kinds := [], alts := [], laidByText := true, laidKinds := [.data, .pinned], laidTests := true, laidLooks := .later }
def FnExactCutLeaseCardSaid : Prop := Claim7.holds Tryz.pinned (.plain (OpenSpec.ofChange fnExactCutLeaseSpec)) fnExactCutLeaseCard

/-- THE TIED CARD OF 'laws.FnExactCutToken'. -/
def fnExactCutTokenCard : Claim7 := { stood := { row := fnExactCutTokenRow, standIns := [], harness := (true, "56784202b6784ad1f71e3c976834fbc0411c9aaffc97d86a2423723a54d2daec"), looks := false }, kinds := [], alts := [], laidByText := true, laidKinds := [.data, .pinned], laidTests := true, laidLooks := .later }
def FnExactCutTokenCardSaid : Prop := Claim7.holds Tryz.pinned (.plain (OpenSpec.ofChange fnExactCutTokenSpec)) fnExactCutTokenCard

/-- THE TIED CARD OF 'laws.FnExactPassTime'. -/
def fnExactPassTimeCard : Claim7 := { stood := { row := fnExactPassTimeRow, standIns := [], harness := (true, "56784202b6784ad1f71e3c976834fbc0411c9aaffc97d86a2423723a54d2daec"), looks := false }, kinds := [], alts := [], laidByText := true, laidKinds := [.data, .pinned], laidTests := true, laidLooks := .later }
def FnExactPassTimeCardSaid : Prop := Claim7.holds Tryz.pinned (.plain (OpenSpec.ofChange fnExactPassTimeSpec)) fnExactPassTimeCard

/-- THE TIED CARD OF 'laws.FnExactGrantUser'. -/
def fnExactGrantUserCard : Claim7 := { stood := { row := fnExactGrantUserRow, standIns := [], harness := (true, "56784202b6784ad1f71e3c976834fbc0411c9aaffc97d86a2423723a54d2daec"), looks := false }, kinds := [], alts := [], laidByText := true, laidKinds := [.data, .data, .data, .data, .pinned], laidTests := true, laidLooks := .later }
def FnExactGrantUserCardSaid : Prop := Claim7.holds Tryz.pinned (.plain (OpenSpec.ofChange fnExactGrantUserSpec)) fnExactGrantUserCard

/-- THE SECOND FORM's CARD OF 'laws.FnExactWorldOk'. -/
def fnExactWorldOkUptoCard : Claim7 := { stood := { row := fnExactWorldOkUptoRow, standIns := [], harness := (true, "56784202b6784ad1f71e3c976834fbc0411c9aaffc97d86a2423723a54d2daec"), looks := false }, kinds := [], alts := [], laidByText := true, laidKinds := [.data, .pinned], laidTests := true, laidLooks := .later }
def FnExactWorldOkUptoCardSaid : Prop := Claim7.holds Tryz.pinned (.plain (OpenSpec.upto fnExactWorldOkSpec)) fnExactWorldOkUptoCard

/-- THE SECOND FORM's CARD OF 'laws.FnExactStrays'. -/
def fnExactStraysUptoCard : Claim7 := { stood := { row := fnExactStraysUptoRow, standIns := [], harness := (true, "56784202b6784ad1f71e3c976834fbc0411c9aaffc97d86a2423723a54d2daec"), looks := false }, kinds := [], alts := [], laidByText := true, laidKinds := [.data, .pinned], laidTests := true, laidLooks := .later }
def FnExactStraysUptoCardSaid : Prop := Claim7.holds Tryz.pinned (.plain (OpenSpec.upto fnExactStraysSpec)) fnExactStraysUptoCard

/-- THE SECOND FORM's CARD OF 'laws.FnExactLiveLeases'. -/
def fnExactLiveLeasesUptoCard : Claim7 := { stood := { row := fnExactLiveLeasesUptoRow, standIns := [], harness := (true, "56784202b6784ad1f71e3c976834fbc0411c9aaffc97d86a2423723a54d2daec"), looks := false }, kinds := [], alts := [], laidByText := true, laidKinds := [.data, .pinned], laidTests := true, laidLooks := .later }
def FnExactLiveLeasesUptoCardSaid : Prop := Claim7.holds Tryz.pinned (.plain (OpenSpec.upto fnExactLiveLeasesSpec)) fnExactLiveLeasesUptoCard

/-- THE SECOND FORM's CARD OF 'laws.FnExactGrantLease'. -/
def fnExactGrantLeaseUptoCard : Claim7 := { stood := { row := fnExactGrantLeaseUptoRow, standIns := [], harness := (true, "56784202b6784ad1f71e3c976834fbc0411c9aaffc97d86a2423723a54d2daec"), looks := false }, kinds := [], alts := [], laidByText := true, laidKinds := [.data, .pinned], laidTests := true, laidLooks := .later }
def FnExactGrantLeaseUptoCardSaid : Prop := Claim7.holds Tryz.pinned (.plain (OpenSpec.upto fnExactGrantLeaseSpec)) fnExactGrantLeaseUptoCard

/-- THE SECOND FORM's CARD OF 'laws.FnExactCutLease'. -/
def fnExactCutLeaseUptoCard : Claim7 := { stood := { row := fnExactCutLeaseUptoRow, standIns := [], harness := (true, "56784202b6784ad1f71e3c976834fbc0411c9aaffc97d86a2423723a54d2daec"), looks := false }, kinds := [], alts := [], laidByText := true, laidKinds := [.data, .pinned], laidTests := true, laidLooks := .later }
def FnExactCutLeaseUptoCardSaid : Prop := Claim7.holds Tryz.pinned (.plain (OpenSpec.upto fnExactCutLeaseSpec)) fnExactCutLeaseUptoCard

/-- THE SECOND FORM's CARD OF 'laws.FnExactCutToken'. -/
def fnExactCutTokenUptoCard : Claim7 := { stood := { row := fnExactCutTokenUptoRow, standIns := [], harness := (true, "56784202b6784ad1f71e3c976834fbc0411c9aaffc97d86a2423723a54d2daec"), looks := false }, kinds := [], alts := [], laidByText := true, laidKinds := [.data, .pinned], laidTests := true, laidLooks := .later }
def FnExactCutTokenUptoCardSaid : Prop := Claim7.holds Tryz.pinned (.plain (OpenSpec.upto fnExactCutTokenSpec)) fnExactCutTokenUptoCard

/-- THE SECOND FORM's CARD OF 'laws.FnExactPassTime'. -/
def fnExactPassTimeUptoCard : Claim7 := { stood := { row := fnExactPassTimeUptoRow, standIns := [], harness := (true, "56784202b6784ad1f71e3c976834fbc0411c9aaffc97d86a2423723a54d2daec"), looks := false }, kinds := [], alts := [], laidByText := true, laidKinds := [.data, .pinned], laidTests := true, laidLooks := .later }
def FnExactPassTimeUptoCardSaid : Prop := Claim7.holds Tryz.pinned (.plain (OpenSpec.upto fnExactPassTimeSpec)) fnExactPassTimeUptoCard

/-- THE SECOND FORM's CARD OF 'laws.FnExactGrantUser'. -/
def fnExactGrantUserUptoCard : Claim7 := { stood := { row := fnExactGrantUserUptoRow, standIns := [], harness := (true, "56784202b6784ad1f71e3c976834fbc0411c9aaffc97d86a2423723a54d2daec"), looks := false }, kinds := [], alts := [], laidByText := true, laidKinds := [.data, .data, .data, .data, .pinned], laidTests := true, laidLooks := .later }
def FnExactGrantUserUptoCardSaid : Prop := Claim7.holds Tryz.pinned (.plain (OpenSpec.upto fnExactGrantUserSpec)) fnExactGrantUserUptoCard
end Rows
end Go.Proofs.YtdckkojgnkoabaaGreatDoor
