/-
  DERIVED. GIVEN WITH THE SEED: THE CARDS: each row of YtejiifmopopflaaGreatDoorRows.lean that lists a variable, with what it lists TIED to the program's text (the seventh form; the later family's looks); each row that meets fmt, with fmt's text TOLD by the authors' own Lean function (tested against real Go, not proved from fmt's source: count such statements apart). THE CARD IS WHAT COUNTS. Prove the row's statement (the work); the ties are given (YtejiifmopopflaaGreatDoorTie.lean); close each card by the builder's one call (the guide's Derived/Test/ToyasCard.lean, 'card_holds'). Laid BY PROGRAM, IN A SANDBOX (cutbox-door.mjs). By AI agents, Wed Nov 11 2026. No macro, syntax, notation, axiom, sorry.
-/
import Derived.Test.YtejiifmopopflaaGreatDoorRows
import GoSem.ClaimSeven
namespace Go.Proofs.YtejiifmopopflaaGreatDoor
namespace Rows

/-- THE TIED CARD OF 'laws.FnExactCliStep'. -/
def fnExactCliStepCard : Claim7 := { stood := { row := fnExactCliStepRow, standIns := [], harness := (true, "32c38d1bc9fa9ee0f4773d087f650b795b97349945e9473290db3d89e019d98c"), looks := false }, kinds := [], alts := [], laidByText := true, laidKinds := [.data, .pinned], laidTests := true, laidLooks := .later }
def FnExactCliStepCardSaid : Prop := Claim7.holds Tryz.pinned (.plain (OpenSpec.ofChange fnExactCliStepSpec)) fnExactCliStepCard

/-- THE TIED CARD OF 'laws.FnHello'. -/
def fnHelloCard : Claim7 := { stood := { row := fnHelloRow, standIns := [], harness := (true, "32c38d1bc9fa9ee0f4773d087f650b795b97349945e9473290db3d89e019d98c"), looks := false }, kinds := [], alts := [], laidByText := true, laidKinds := [.data, .pinned], laidTests := true, laidLooks := .later }
def FnHelloCardSaid : Prop := Claim7.holds Tryz.pinned (.plain (OpenSpec.ofChange fnHelloSpec)) fnHelloCard

/-- THE TIED CARD OF 'laws.FnCliOuts'. -/
def fnCliOutsCard : Claim7 := { stood := { row := fnCliOutsRow, standIns := [], harness := (true, "32c38d1bc9fa9ee0f4773d087f650b795b97349945e9473290db3d89e019d98c"), looks := false }, kinds := [], alts := [], laidByText := true, laidKinds := [.data, .pinned], laidTests := true, laidLooks := .later }
def FnCliOutsCardSaid : Prop := Claim7.holds Tryz.pinned (.plain (OpenSpec.ofChange fnCliOutsSpec)) fnCliOutsCard

/-- THE TIED CARD OF 'laws.FnExactHostNew'. -/
def fnExactHostNewCard : Claim7 := { stood := { row := fnExactHostNewRow, standIns := [], harness := (true, "32c38d1bc9fa9ee0f4773d087f650b795b97349945e9473290db3d89e019d98c"), looks := false }, kinds := [], alts := [], laidByText := true, laidKinds := [.data, .pinned], laidTests := true, laidLooks := .later }
def FnExactHostNewCardSaid : Prop := Claim7.holds Tryz.pinned (.plain (OpenSpec.ofChange fnExactHostNewSpec)) fnExactHostNewCard

/-- THE SECOND FORM's CARD OF 'laws.FnExactCliStep'. -/
def fnExactCliStepUptoCard : Claim7 := { stood := { row := fnExactCliStepUptoRow, standIns := [], harness := (true, "32c38d1bc9fa9ee0f4773d087f650b795b97349945e9473290db3d89e019d98c"), looks := false }, kinds := [], alts := [], laidByText := true, laidKinds := [.data, .pinned], laidTests := true, laidLooks := .later }
def FnExactCliStepUptoCardSaid : Prop := Claim7.holds Tryz.pinned (.plain (OpenSpec.upto fnExactCliStepSpec)) fnExactCliStepUptoCard

/-- THE SECOND FORM's CARD OF 'laws.FnHello'. -/
def fnHelloUptoCard : Claim7 := { stood := { row := fnHelloUptoRow, standIns := [], harness := (true, "32c38d1bc9fa9ee0f4773d087f650b795b97349945e9473290db3d89e019d98c"), looks := false }, kinds := [], alts := [], laidByText := true, laidKinds := [.data, .pinned], laidTests := true, laidLooks := .later }
def FnHelloUptoCardSaid : Prop := Claim7.holds Tryz.pinned (.plain (OpenSpec.upto fnHelloSpec)) fnHelloUptoCard

/-- THE SECOND FORM's CARD OF 'laws.FnCliOuts'. -/
def fnCliOutsUptoCard : Claim7 := { stood := { row := fnCliOutsUptoRow, standIns := [], harness := (true, "32c38d1bc9fa9ee0f4773d087f650b795b97349945e9473290db3d89e019d98c"), looks := false }, kinds := [], alts := [], laidByText := true, laidKinds := [.data, .pinned], laidTests := true, laidLooks := .later }
def FnCliOutsUptoCardSaid : Prop := Claim7.holds Tryz.pinned (.plain (OpenSpec.upto fnCliOutsSpec)) fnCliOutsUptoCard

/-- THE SECOND FORM's CARD OF 'laws.FnExactHostNew'. -/
def fnExactHostNewUptoCard : Claim7 := { stood := { row := fnExactHostNewUptoRow, standIns := [], harness := (true, "32c38d1bc9fa9ee0f4773d087f650b795b97349945e9473290db3d89e019d98c"), looks := false }, kinds := [], alts := [], laidByText := true, laidKinds := [.data, .pinned], laidTests := true, laidLooks := .later }
def FnExactHostNewUptoCardSaid : Prop := Claim7.holds Tryz.pinned (.plain (OpenSpec.upto fnExactHostNewSpec)) fnExactHostNewUptoCard
end Rows
end Go.Proofs.YtejiifmopopflaaGreatDoor
