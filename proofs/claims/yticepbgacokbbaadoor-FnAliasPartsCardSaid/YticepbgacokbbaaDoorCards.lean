/-
  DERIVED. GIVEN WITH THE SEED: THE CARDS: each row of YticepbgacokbbaaDoorRows.lean that lists a variable, with what it lists TIED to the program's text (the seventh form; the later family's looks); each row that meets fmt, with fmt's text TOLD by the authors' own Lean function (tested against real Go, not proved from fmt's source: count such statements apart). THE CARD IS WHAT COUNTS. Prove the row's statement (the work); the ties are given (YticepbgacokbbaaDoorTie.lean); close each card by the builder's one call (the guide's Derived/Test/ToyasCard.lean, 'card_holds'). Laid BY PROGRAM, IN A SANDBOX (cutbox-door.mjs). By AI agents, Wed Nov 11 2026. No macro, syntax, notation, axiom, sorry.
-/
import Derived.Test.YticepbgacokbbaaDoorRows
import GoSem.ClaimSeven
namespace Go.Proofs.YticepbgacokbbaaDoor
namespace Rows

/-- THE TIED CARD OF 'laws.FnAliasRound'. -/
def fnAliasRoundCard : Claim7 := { stood := { row := fnAliasRoundRow, standIns := [], harness := (true, "99963f8728a1493883c23b3fe1624e1c6a046694801e95e123524d35466c4f51"), looks := false }, kinds := [], alts := [], laidByText := true, laidKinds := [.data, .pinned], laidTests := true, laidLooks := .later }
def FnAliasRoundCardSaid : Prop := Claim7.holds Tryd.pinned (.plain (OpenSpec.ofChange fnAliasRoundSpec)) fnAliasRoundCard

/-- THE TIED CARD OF 'laws.FnAliasParts'. -/
def fnAliasPartsCard : Claim7 := { stood := { row := fnAliasPartsRow, standIns := [], harness := (true, "99963f8728a1493883c23b3fe1624e1c6a046694801e95e123524d35466c4f51"), looks := false }, kinds := [], alts := [], laidByText := true, laidKinds := [.data, .pinned], laidTests := true, laidLooks := .later }
def FnAliasPartsCardSaid : Prop := Claim7.holds Tryd.pinned (.plain (OpenSpec.ofChange fnAliasPartsSpec)) fnAliasPartsCard

/-- THE TIED CARD OF 'laws.FnAliasFor'. -/
def fnAliasForCard : Claim7 := { stood := { row := fnAliasForRow, standIns := [], harness := (true, "99963f8728a1493883c23b3fe1624e1c6a046694801e95e123524d35466c4f51"), looks := false }, kinds := [], alts := [], laidByText := true, laidKinds := [.data, .pinned], laidTests := true, laidLooks := .later }
def FnAliasForCardSaid : Prop := Claim7.holds Tryd.pinned (.plain (OpenSpec.ofChange fnAliasForSpec)) fnAliasForCard

/-- THE TIED CARD OF 'laws.FnAliasFlat'. -/
def fnAliasFlatCard : Claim7 := { stood := { row := fnAliasFlatRow, standIns := [], harness := (true, "99963f8728a1493883c23b3fe1624e1c6a046694801e95e123524d35466c4f51"), looks := false }, kinds := [], alts := [], laidByText := true, laidKinds := [.data, .pinned], laidTests := true, laidLooks := .later }
def FnAliasFlatCardSaid : Prop := Claim7.holds Tryd.pinned (.plain (OpenSpec.ofChange fnAliasFlatSpec)) fnAliasFlatCard

/-- THE TIED CARD OF 'laws.FnExactAliasFor'. -/
def fnExactAliasForCard : Claim7 := { stood := { row := fnExactAliasForRow, standIns := [], harness := (true, "99963f8728a1493883c23b3fe1624e1c6a046694801e95e123524d35466c4f51"), looks := false }, kinds := [], alts := [], laidByText := true, laidKinds := [.data, .pinned], laidTests := true, laidLooks := .later }
def FnExactAliasForCardSaid : Prop := Claim7.holds Tryd.pinned (.plain (OpenSpec.ofChange fnExactAliasForSpec)) fnExactAliasForCard

/-- THE TIED CARD OF 'laws.FnExactAliasRound'. -/
def fnExactAliasRoundCard : Claim7 := { stood := { row := fnExactAliasRoundRow, standIns := [], harness := (true, "99963f8728a1493883c23b3fe1624e1c6a046694801e95e123524d35466c4f51"), looks := false }, kinds := [], alts := [], laidByText := true, laidKinds := [.data, .pinned], laidTests := true, laidLooks := .later }
def FnExactAliasRoundCardSaid : Prop := Claim7.holds Tryd.pinned (.plain (OpenSpec.ofChange fnExactAliasRoundSpec)) fnExactAliasRoundCard

/-- THE TIED CARD OF 'laws.FnExactAliasFlat'. -/
def fnExactAliasFlatCard : Claim7 := { stood := { row := fnExactAliasFlatRow, standIns := [], harness := (true, "99963f8728a1493883c23b3fe1624e1c6a046694801e95e123524d35466c4f51"), looks := false }, kinds := [], alts := [], laidByText := true, laidKinds := [.data, .pinned], laidTests := true, laidLooks := .later }
def FnExactAliasFlatCardSaid : Prop := Claim7.holds Tryd.pinned (.plain (OpenSpec.ofChange fnExactAliasFlatSpec)) fnExactAliasFlatCard

/-- THE SECOND FORM's CARD OF 'laws.FnAliasRound'. -/
def fnAliasRoundUptoCard : Claim7 := { stood := { row := fnAliasRoundUptoRow, standIns := [], harness := (true, "99963f8728a1493883c23b3fe1624e1c6a046694801e95e123524d35466c4f51"), looks := false }, kinds := [], alts := [], laidByText := true, laidKinds := [.data, .pinned], laidTests := true, laidLooks := .later }
def FnAliasRoundUptoCardSaid : Prop := Claim7.holds Tryd.pinned (.plain (OpenSpec.upto fnAliasRoundSpec)) fnAliasRoundUptoCard

/-- THE SECOND FORM's CARD OF 'laws.FnAliasParts'. -/
def fnAliasPartsUptoCard : Claim7 := { stood := { row := fnAliasPartsUptoRow, standIns := [], harness := (true, "99963f8728a1493883c23b3fe1624e1c6a046694801e95e123524d35466c4f51"), looks := false }, kinds := [], alts := [], laidByText := true, laidKinds := [.data, .pinned], laidTests := true, laidLooks := .later }
def FnAliasPartsUptoCardSaid : Prop := Claim7.holds Tryd.pinned (.plain (OpenSpec.upto fnAliasPartsSpec)) fnAliasPartsUptoCard

/-- THE SECOND FORM's CARD OF 'laws.FnAliasFor'. -/
def fnAliasForUptoCard : Claim7 := { stood := { row := fnAliasForUptoRow, standIns := [], harness := (true, "99963f8728a1493883c23b3fe1624e1c6a046694801e95e123524d35466c4f51"), looks := false }, kinds := [], alts := [], laidByText := true, laidKinds := [.data, .pinned], laidTests := true, laidLooks := .later }
def FnAliasForUptoCardSaid : Prop := Claim7.holds Tryd.pinned (.plain (OpenSpec.upto fnAliasForSpec)) fnAliasForUptoCard

/-- THE SECOND FORM's CARD OF 'laws.FnAliasFlat'. -/
def fnAliasFlatUptoCard : Claim7 := { stood := { row := fnAliasFlatUptoRow, standIns := [], harness := (true, "99963f8728a1493883c23b3fe1624e1c6a046694801e95e123524d35466c4f51"), looks := false }, kinds := [], alts := [], laidByText := true, laidKinds := [.data, .pinned], laidTests := true, laidLooks := .later }
def FnAliasFlatUptoCardSaid : Prop := Claim7.holds Tryd.pinned (.plain (OpenSpec.upto fnAliasFlatSpec)) fnAliasFlatUptoCard

/-- THE SECOND FORM's CARD OF 'laws.FnExactAliasFor'. -/
def fnExactAliasForUptoCard : Claim7 := { stood := { row := fnExactAliasForUptoRow, standIns := [], harness := (true, "99963f8728a1493883c23b3fe1624e1c6a046694801e95e123524d35466c4f51"), looks := false }, kinds := [], alts := [], laidByText := true, laidKinds := [.data, .pinned], laidTests := true, laidLooks := .later }
def FnExactAliasForUptoCardSaid : Prop := Claim7.holds Tryd.pinned (.plain (OpenSpec.upto fnExactAliasForSpec)) fnExactAliasForUptoCard

/-- THE SECOND FORM's CARD OF 'laws.FnExactAliasRound'. -/
def fnExactAliasRoundUptoCard : Claim7 := { stood := { row := fnExactAliasRoundUptoRow, standIns := [], harness := (true, "99963f8728a1493883c23b3fe1624e1c6a046694801e95e123524d35466c4f51"), looks := false }, kinds := [], alts := [], laidByText := true, laidKinds := [.data, .pinned], laidTests := true, laidLooks := .later }
def FnExactAliasRoundUptoCardSaid : Prop := Claim7.holds Tryd.pinned (.plain (OpenSpec.upto fnExactAliasRoundSpec)) fnExactAliasRoundUptoCard

/-- THE SECOND FORM's CARD OF 'laws.FnExactAliasFlat'. -/
def fnExactAliasFlatUptoCard : Claim7 := { stood := { row := fnExactAliasFlatUptoRow, standIns := [], harness := (true, "99963f8728a1493883c23b3fe1624e1c6a046694801e95e123524d35466c4f51"), looks := false }, kinds := [], alts := [], laidByText := true, laidKinds := [.data, .pinned], laidTests := true, laidLooks := .later }
def FnExactAliasFlatUptoCardSaid : Prop := Claim7.holds Tryd.pinned (.plain (OpenSpec.upto fnExactAliasFlatSpec)) fnExactAliasFlatUptoCard
end Rows
end Go.Proofs.YticepbgacokbbaaDoor
