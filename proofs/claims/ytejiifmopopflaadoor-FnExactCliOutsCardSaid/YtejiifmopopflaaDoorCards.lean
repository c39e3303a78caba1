/-
  DERIVED. GIVEN WITH THE SEED: THE CARDS: each row of YtejiifmopopflaaDoorRows.lean that lists a variable, with what it lists TIED to the program's text (the seventh form; the later family's looks); each row that meets fmt, with fmt's text TOLD by the authors' own Lean function (tested against real Go, not proved from fmt's source: count such statements apart). THE CARD IS WHAT COUNTS. Prove the row's statement (the work); the ties are given (YtejiifmopopflaaDoorTie.lean); close each card by the builder's one call (the guide's Derived/Test/ToyasCard.lean, 'card_holds'). Laid BY PROGRAM, IN A SANDBOX (cutbox-door.mjs). By AI agents, Wed Nov 11 2026. No macro, syntax, notation, axiom, sorry.
-/
import Derived.Test.YtejiifmopopflaaDoorRows
import GoSem.ClaimSeven
namespace Go.Proofs.YtejiifmopopflaaDoor
namespace Rows

/-- THE TIED CARD OF 'laws.FnExactBounceOf'. -/
def fnExactBounceOfCard : Claim7 := { stood := { row := fnExactBounceOfRow, standIns := [], harness := (true, "0820b8dd8eb6ef55773f551b9f28d9ed04f18e8ace042f20799386b6358d1da8"), looks := false }, kinds := [], alts := [], laidByText := true, laidKinds := [.data, .pinned], laidTests := true, laidLooks := .later }
def FnExactBounceOfCardSaid : Prop := Claim7.holds Tryd.pinned (.plain (OpenSpec.ofChange fnExactBounceOfSpec)) fnExactBounceOfCard

/-- THE TIED CARD OF 'laws.FnExactCliNew'. -/
def fnExactCliNewCard : Claim7 := { stood := { row := fnExactCliNewRow, standIns := [], harness := (true, "0820b8dd8eb6ef55773f551b9f28d9ed04f18e8ace042f20799386b6358d1da8"), looks := false }, kinds := [], alts := [], laidByText := true, laidKinds := [.data, .pinned], laidTests := true, laidLooks := .later }
def FnExactCliNewCardSaid : Prop := Claim7.holds Tryd.pinned (.plain (OpenSpec.ofChange fnExactCliNewSpec)) fnExactCliNewCard

/-- THE TIED CARD OF 'laws.FnExactCliOuts'. -/
def fnExactCliOutsCard : Claim7 := { stood := { row := fnExactCliOutsRow, standIns := [], harness := (true, "0820b8dd8eb6ef55773f551b9f28d9ed04f18e8ace042f20799386b6358d1da8"), looks := false }, kinds := [], alts := [], laidByText := true, laidKinds := [.data, .pinned], laidTests := true, laidLooks := .later }
def FnExactCliOutsCardSaid : Prop := Claim7.holds Tryd.pinned (.plain (OpenSpec.ofChange fnExactCliOutsSpec)) fnExactCliOutsCard

/-- THE TIED CARD OF 'laws.FnHostNew'. -/
def fnHostNewCard : Claim7 := { stood := { row := fnHostNewRow, standIns := [], harness := (true, "0820b8dd8eb6ef55773f551b9f28d9ed04f18e8ace042f20799386b6358d1da8"), looks := false }, kinds := [], alts := [], laidByText := true, laidKinds := [.data, .pinned], laidTests := true, laidLooks := .later }
def FnHostNewCardSaid : Prop := Claim7.holds Tryd.pinned (.plain (OpenSpec.ofChange fnHostNewSpec)) fnHostNewCard

/-- THE SECOND FORM's CARD OF 'laws.FnExactBounceOf'. -/
def fnExactBounceOfUptoCard : Claim7 := { stood := { row := fnExactBounceOfUptoRow, standIns := [], harness := (true, "0820b8dd8eb6ef55773f551b9f28d9ed04f18e8ace042f20799386b6358d1da8"), looks := false }, kinds := [], alts := [], laidByText := true, laidKinds := [.data, .pinned], laidTests := true, laidLooks := .later }
def FnExactBounceOfUptoCardSaid : Prop := Claim7.holds Tryd.pinned (.plain (OpenSpec.upto fnExactBounceOfSpec)) fnExactBounceOfUptoCard

/-- THE SECOND FORM's CARD OF 'laws.FnExactCliNew'. -/
def fnExactCliNewUptoCard : Claim7 := { stood := { row := fnExactCliNewUptoRow, standIns := [], harness := (true, "0820b8dd8eb6ef55773f551b9f28d9ed04f18e8ace042f20799386b6358d1da8"), looks := false }, kinds := [], alts := [], laidByText := true, laidKinds := [.data, .pinned], laidTests := true, laidLooks := .later }
def FnExactCliNewUptoCardSaid : Prop := Claim7.holds Tryd.pinned (.plain (OpenSpec.upto fnExactCliNewSpec)) fnExactCliNewUptoCard

/-- THE SECOND FORM's CARD OF 'laws.FnExactCliOuts'. -/
def fnExactCliOutsUptoCard : Claim7 := { stood := { row := fnExactCliOutsUptoRow, standIns := [], harness := (true, "0820b8dd8eb6ef55773f551b9f28d9ed04f18e8ace042f20799386b6358d1da8"), looks := false }, kinds := [], alts := [], laidByText := true, laidKinds := [.data, .pinned], laidTests := true, laidLooks := .later }
def FnExactCliOutsUptoCardSaid : Prop := Claim7.holds Tryd.pinned (.plain (OpenSpec.upto fnExactCliOutsSpec)) fnExactCliOutsUptoCard

/-- THE SECOND FORM's CARD OF 'laws.FnHostNew'. -/
def fnHostNewUptoCard : Claim7 := { stood := { row := fnHostNewUptoRow, standIns := [], harness := (true, "0820b8dd8eb6ef55773f551b9f28d9ed04f18e8ace042f20799386b6358d1da8"), looks := false }, kinds := [], alts := [], laidByText := true, laidKinds := [.data, .pinned], laidTests := true, laidLooks := .later }
def FnHostNewUptoCardSaid : Prop := Claim7.holds Tryd.pinned (.plain (OpenSpec.upto fnHostNewSpec)) fnHostNewUptoCard
end Rows
end Go.Proofs.YtejiifmopopflaaDoor
