/-
  DERIVED. GIVEN WITH THE SEED: THE CARDS: each row of YticepbgacokbbaaGreatDoorRows.lean that lists a variable, with what it lists TIED to the program's text (the seventh form; the later family's looks); each row that meets fmt, with fmt's text TOLD by the authors' own Lean function (tested against real Go, not proved from fmt's source: count such statements apart). THE CARD IS WHAT COUNTS. Prove the row's statement (the work); the ties are given (YticepbgacokbbaaGreatDoorTie.lean); close each card by the builder's one call (the guide's Derived/Test/ToyasCard.lean, 'card_holds'). Laid BY PROGRAM, IN A SANDBOX (cutbox-door.mjs). By AI agents, Wed Nov 11 2026. No macro, syntax, notation, axiom, sorry.
-/
import Derived.Test.YticepbgacokbbaaGreatDoorRows
import GoSem.ClaimSeven
namespace Go.Proofs.YticepbgacokbbaaGreatDoor
namespace Rows

/-- THE TIED CARD OF 'laws.FnAliasMail'. -/
def fnAliasMailCard : Claim7 := { stood := { row := fnAliasMailRow, standIns := [], harness := (true, "8596de0e7b28bbbd0ce93c08a54c01f44a74d1be04f2d7499a9f06f75b32658e"), looks := false }, kinds := [], alts := [], laidByText := true, laidKinds := [.data, .pinned], laidTests := true, laidLooks := .later }
def FnAliasMailCardSaid : Prop := Claim7.holds Tryz.pinned (.plain (OpenSpec.ofChange fnAliasMailSpec)) fnAliasMailCard

/-- THE TIED CARD OF 'laws.FnExactAliasMail'. -/
def fnExactAliasMailCard : Claim7 := { stood := { row := fnExactAliasMailRow, standIns := [], harness := (true, "8596de0e7b28bbbd0ce93c08a54c01f44a74d1be04f2d7499a9f06f75b32658e"), looks := false }, kinds := [], alts := [], laidByText := true, laidKinds := [.data, .pinned], laidTests := true, laidLooks := .later }
def FnExactAliasMailCardSaid : Prop := Claim7.holds Tryz.pinned (.plain (OpenSpec.ofChange fnExactAliasMailSpec)) fnExactAliasMailCard

/-- THE SECOND FORM's CARD OF 'laws.FnAliasMail'. -/
def fnAliasMailUptoCard : Claim7 := { stood := { row := fnAliasMailUptoRow, standIns := [], harness := (true, "8596de0e7b28bbbd0ce93c08a54c01f44a74d1be04f2d7499a9f06f75b32658e"), looks := false }, kinds := [], alts := [], laidByText := true, laidKinds := [.data, .pinned], laidTests := true, laidLooks := .later }
def FnAliasMailUptoCardSaid : Prop := Claim7.holds Tryz.pinned (.plain (OpenSpec.upto fnAliasMailSpec)) fnAliasMailUptoCard

/-- THE SECOND FORM's CARD OF 'laws.FnExactAliasMail'. -/
def fnExactAliasMailUptoCard : Claim7 := { stood := { row := fnExactAliasMailUptoRow, standIns := [], harness := (true, "8596de0e7b28bbbd0ce93c08a54c01f44a74d1be04f2d7499a9f06f75b32658e"), looks := false }, kinds := [], alts := [], laidByText := true, laidKinds := [.data, .pinned], laidTests := true, laidLooks := .later }
def FnExactAliasMailUptoCardSaid : Prop := Claim7.holds Tryz.pinned (.plain (OpenSpec.upto fnExactAliasMailSpec)) fnExactAliasMailUptoCard
end Rows
end Go.Proofs.YticepbgacokbbaaGreatDoor
