/-
  DERIVED. GIVEN WITH THE SEED: THE CARDS: each row of YtoppgnmnbbhghaaGreatDoorRows.lean that lists a variable, with what it lists TIED to the program's text (the seventh form; the later family's looks); each row that meets fmt, with fmt's text TOLD by the authors' own Lean function (tested against real Go, not proved from fmt's source: count such statements apart). THE CARD IS WHAT COUNTS. Prove the row's statement (the work); the ties are given (YtoppgnmnbbhghaaGreatDoorTie.lean); close each card by the builder's one call (the guide's Derived/Test/ToyasCard.lean, 'card_holds'). Laid BY PROGRAM, IN A SANDBOX (cutbox-door.mjs). By AI agents, Wed Nov 11 2026. No macro, syntax, notation, axiom, sorry.
-/
import Derived.Test.YtoppgnmnbbhghaaGreatDoorRows
import GoSem.ClaimSeven
namespace Go.Proofs.YtoppgnmnbbhghaaGreatDoor
namespace Rows

/-- THE TIED CARD OF 'laws.FnCliOuts'. -/
def fnCliOutsCard : Claim7 := { stood := { row := fnCliOutsRow, standIns := [], harness := (true, "ea26da4f73dff40bea0736055f6331fe6767429e56471dbc16e2efbf382e37a0"), looks := false }, kinds := [], alts := [], laidByText := true, laidKinds := [.data, .pinned], laidTests := true, laidLooks := .later }
def FnCliOutsCardSaid : Prop := Claim7.holds Tryz.pinned (.plain (OpenSpec.ofChange fnCliOutsSpec)) fnCliOutsCard

/-- THE TIED CARD OF 'laws.FnSpoolAdd'. -/
def fnSpoolAddCard : Claim7 := { stood := { row := fnSpoolAddRow, standIns := [], harness := (true, "ea26da4f73dff40bea0736055f6331fe6767429e56471dbc16e2efbf382e37a0"), looks := false }, kinds := [], alts := [], laidByText := true, laidKinds := [.data, .pinned], laidTests := true, laidLooks := .later }
def FnSpoolAddCardSaid : Prop := Claim7.holds Tryz.pinned (.plain (OpenSpec.ofChange fnSpoolAddSpec)) fnSpoolAddCard

/-- THE TIED CARD OF 'laws.FnCliStep'. -/
def fnCliStepCard : Claim7 := { stood := { row := fnCliStepRow, standIns := [], harness := (true, "ea26da4f73dff40bea0736055f6331fe6767429e56471dbc16e2efbf382e37a0"), looks := false }, kinds := [], alts := [], laidByText := true, laidKinds := [.data, .pinned], laidTests := true, laidLooks := .later }
def FnCliStepCardSaid : Prop := Claim7.holds Tryz.pinned (.plain (OpenSpec.ofChange fnCliStepSpec)) fnCliStepCard

/-- THE TIED CARD OF 'laws.FnExactCliStep'. -/
def fnExactCliStepCard : Claim7 := { stood := { row := fnExactCliStepRow, standIns := [], harness := (true, "ea26da4f73dff40bea0736055f6331fe6767429e56471dbc16e2efbf382e37a0"), looks := false }, kinds := [], alts := [], laidByText := true, laidKinds := [.data, .pinned], laidTests := true, laidLooks := .later }
def FnExactCliStepCardSaid : Prop := Claim7.holds Tryz.pinned (.plain (OpenSpec.ofChange fnExactCliStepSpec)) fnExactCliStepCard

/-- THE SECOND FORM's CARD OF 'laws.FnCliOuts'. -/
def fnCliOutsUptoCard : Claim7 := { stood := { row := fnCliOutsUptoRow, standIns := [], harness := (true, "ea26da4f73dff40bea0736055f6331fe6767429e56471dbc16e2efbf382e37a0"), looks := false }, kinds := [], alts := [], laidByText := true, laidKinds := [.data, .pinned], laidTests := true, laidLooks := .later }
def FnCliOutsUptoCardSaid : Prop := Claim7.holds Tryz.pinned (.plain (OpenSpec.upto fnCliOutsSpec)) fnCliOutsUptoCard

/-- THE SECOND FORM's CARD OF 'laws.FnSpoolAdd'. -/
def fnSpoolAddUptoCard : Claim7 := { stood := { row := fnSpoolAddUptoRow, standIns := [], harness := (true, "ea26da4f73dff40bea0736055f6331fe6767429e56471dbc16e2efbf382e37a0"), looks := false }, kinds := [], alts := [], laidByText := true, laidKinds := [.data, .pinned], laidTests := true, laidLooks := .later }
def FnSpoolAddUptoCardSaid : Prop := Claim7.holds Tryz.pinned (.plain (OpenSpec.upto fnSpoolAddSpec)) fnSpoolAddUptoCard

/-- THE SECOND FORM's CARD OF 'laws.FnCliStep'. -/
def fnCliStepUptoCard : Claim7 := { stood := { row := fnCliStepUptoRow, standIns := [], harness := (true, "ea26da4f73dff40bea0736055f6331fe6767429e56471dbc16e2efbf382e37a0"), looks := false }, kinds := [], alts := [], laidByText := true, laidKinds := [.data, .pinned], laidTests := true, laidLooks := .later }
def FnCliStepUptoCardSaid : Prop := Claim7.holds Tryz.pinned (.plain (OpenSpec.upto fnCliStepSpec)) fnCliStepUptoCard

/-- THE SECOND FORM's CARD OF 'laws.FnExactCliStep'. -/
def fnExactCliStepUptoCard : Claim7 := { stood := { row := fnExactCliStepUptoRow, standIns := [], harness := (true, "ea26da4f73dff40bea0736055f6331fe6767429e56471dbc16e2efbf382e37a0"), looks := false }, kinds := [], alts := [], laidByText := true, laidKinds := [.data, .pinned], laidTests := true, laidLooks := .later }
def FnExactCliStepUptoCardSaid : Prop := Claim7.holds Tryz.pinned (.plain (OpenSpec.upto fnExactCliStepSpec)) fnExactCliStepUptoCard
end Rows
end Go.Proofs.YtoppgnmnbbhghaaGreatDoor
