/-
  DERIVED. GIVEN WITH THE SEED: THE CARDS: each row of YtiaibgkpohmihaaGreatDoorRows.lean that lists a variable, with what it lists TIED to the program's text (the seventh form; the later family's looks); each row that meets fmt, with fmt's text TOLD by the authors' own Lean function (tested against real Go, not proved from fmt's source: count such statements apart). THE CARD IS WHAT COUNTS. Prove the row's statement (the work); the ties are given (YtiaibgkpohmihaaGreatDoorTie.lean); close each card by the builder's one call (the guide's Derived/Test/ToyasCard.lean, 'card_holds'). Laid BY PROGRAM, IN A SANDBOX (cutbox-door.mjs). By AI agents, Wed Nov 11 2026. No macro, syntax, notation, axiom, sorry.
-/
import Derived.Test.YtiaibgkpohmihaaGreatDoorRows
import GoSem.ClaimSeven
namespace Go.Proofs.YtiaibgkpohmihaaGreatDoor
namespace Rows

/-- THE TIED CARD OF 'laws.FnHello'. -/
def fnHelloCard : Claim7 := { stood := { row := fnHelloRow, standIns := [], harness := (true, "669b132bf888263504d2fcb04c47d09c9d5469b9521e9adc0990c0ddcf978c3e"), looks := false }, kinds := [], alts := [], laidByText := true, laidKinds := [.data, .pinned], laidTests := true, laidLooks := .later }
def FnHelloCardSaid : Prop := Claim7.holds Tryz.pinned (.plain (OpenSpec.ofChange fnHelloSpec)) fnHelloCard

/-- THE TIED CARD OF 'laws.FnSpoolAdd'. -/
def fnSpoolAddCard : Claim7 := { stood := { row := fnSpoolAddRow, standIns := [], harness := (true, "669b132bf888263504d2fcb04c47d09c9d5469b9521e9adc0990c0ddcf978c3e"), looks := false }, kinds := [], alts := [], laidByText := true, laidKinds := [.data, .pinned], laidTests := true, laidLooks := .later }
def FnSpoolAddCardSaid : Prop := Claim7.holds Tryz.pinned (.plain (OpenSpec.ofChange fnSpoolAddSpec)) fnSpoolAddCard

/-- THE SECOND FORM's CARD OF 'laws.FnHello'. -/
def fnHelloUptoCard : Claim7 := { stood := { row := fnHelloUptoRow, standIns := [], harness := (true, "669b132bf888263504d2fcb04c47d09c9d5469b9521e9adc0990c0ddcf978c3e"), looks := false }, kinds := [], alts := [], laidByText := true, laidKinds := [.data, .pinned], laidTests := true, laidLooks := .later }
def FnHelloUptoCardSaid : Prop := Claim7.holds Tryz.pinned (.plain (OpenSpec.upto fnHelloSpec)) fnHelloUptoCard

/-- THE SECOND FORM's CARD OF 'laws.FnSpoolAdd'. -/
def fnSpoolAddUptoCard : Claim7 := { stood := { row := fnSpoolAddUptoRow, standIns := [], harness := (true, "669b132bf888263504d2fcb04c47d09c9d5469b9521e9adc0990c0ddcf978c3e"), looks := false }, kinds := [], alts := [], laidByText := true, laidKinds := [.data, .pinned], laidTests := true, laidLooks := .later }
def FnSpoolAddUptoCardSaid : Prop := Claim7.holds Tryz.pinned (.plain (OpenSpec.upto fnSpoolAddSpec)) fnSpoolAddUptoCard
end Rows
end Go.Proofs.YtiaibgkpohmihaaGreatDoor
