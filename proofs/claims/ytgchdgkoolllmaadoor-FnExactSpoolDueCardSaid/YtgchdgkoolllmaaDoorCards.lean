/-
  DERIVED. GIVEN WITH THE SEED: THE CARDS: each row of YtgchdgkoolllmaaDoorRows.lean that lists a variable, with what it lists TIED to the program's text (the seventh form; the later family's looks); each row that meets fmt, with fmt's text TOLD by the authors' own Lean function (tested against real Go, not proved from fmt's source: count such statements apart). THE CARD IS WHAT COUNTS. Prove the row's statement (the work); the ties are given (YtgchdgkoolllmaaDoorTie.lean); close each card by the builder's one call (the guide's Derived/Test/ToyasCard.lean, 'card_holds'). Laid BY PROGRAM, IN A SANDBOX (cutbox-door.mjs). By AI agents, Wed Nov 11 2026. No macro, syntax, notation, axiom, sorry.
-/
import Derived.Test.YtgchdgkoolllmaaDoorRows
import GoSem.ClaimSeven
namespace Go.Proofs.YtgchdgkoolllmaaDoor
namespace Rows

/-- THE TIED CARD OF 'laws.FnExactSpoolOk'. -/
def fnExactSpoolOkCard : Claim7 := { stood := { row := fnExactSpoolOkRow, standIns := [], harness := (true, "6f022ac0718f4313ac542f4ad5aa7bdd3615d887199e1e508a1785765b18d2c2"), looks := false }, kinds := [], alts := [], laidByText := true, laidKinds := [.data, .pinned], laidTests := true, laidLooks := .later }
def FnExactSpoolOkCardSaid : Prop := Claim7.holds Tryd.pinned (.plain (OpenSpec.ofChange fnExactSpoolOkSpec)) fnExactSpoolOkCard

/-- THE TIED CARD OF 'laws.FnExactSpoolMany'. -/
def fnExactSpoolManyCard : Claim7 := { stood := { row := fnExactSpoolManyRow, standIns := [], harness := (true, "6f022ac0718f4313ac542f4ad5aa7bdd3615d887199e1e508a1785765b18d2c2"), looks := false }, kinds := [], alts := [], laidByText := true, laidKinds := [.data, .pinned], laidTests := true, laidLooks := .later }
def FnExactSpoolManyCardSaid : Prop := Claim7.holds Tryd.pinned (.plain (OpenSpec.ofChange fnExactSpoolManySpec)) fnExactSpoolManyCard

/-- THE TIED CARD OF 'laws.FnExactSpoolDue'. -/
def fnExactSpoolDueCard : Claim7 := { stood := { row := fnExactSpoolDueRow, standIns := [], harness := (true, "6f022ac0718f4313ac542f4ad5aa7bdd3615d887199e1e508a1785765b18d2c2"), looks := false }, kinds := [], alts := [], laidByText := true, laidKinds := [.data, .pinned], laidTests := true, laidLooks := .later }
def FnExactSpoolDueCardSaid : Prop := Claim7.holds Tryd.pinned (.plain (OpenSpec.ofChange fnExactSpoolDueSpec)) fnExactSpoolDueCard

/-- THE TIED CARD OF 'laws.FnSpoolDue'. -/
def fnSpoolDueCard : Claim7 := { stood := { row := fnSpoolDueRow, standIns := [], harness := (true, "6f022ac0718f4313ac542f4ad5aa7bdd3615d887199e1e508a1785765b18d2c2"), looks := false }, kinds := [], alts := [], laidByText := true, laidKinds := [.data, .pinned], laidTests := true, laidLooks := .later }
def FnSpoolDueCardSaid : Prop := Claim7.holds Tryd.pinned (.plain (OpenSpec.ofChange fnSpoolDueSpec)) fnSpoolDueCard

/-- THE TIED CARD OF 'laws.FnSpoolLater'. -/
def fnSpoolLaterCard : Claim7 := { stood := { row := fnSpoolLaterRow, standIns := [], harness := (true, "6f022ac0718f4313ac542f4ad5aa7bdd3615d887199e1e508a1785765b18d2c2"), looks := false }, kinds := [], alts := [], laidByText := true, laidKinds := [.data, .pinned], laidTests := true, laidLooks := .later }
def FnSpoolLaterCardSaid : Prop := Claim7.holds Tryd.pinned (.plain (OpenSpec.ofChange fnSpoolLaterSpec)) fnSpoolLaterCard

/-- THE TIED CARD OF 'laws.FnSpoolDone'. -/
def fnSpoolDoneCard : Claim7 := { stood := { row := fnSpoolDoneRow, standIns := [], harness := (true, "6f022ac0718f4313ac542f4ad5aa7bdd3615d887199e1e508a1785765b18d2c2"), looks := false }, kinds := [], alts := [], laidByText := true, laidKinds := [.data, .pinned], laidTests := true, laidLooks := .later }
def FnSpoolDoneCardSaid : Prop := Claim7.holds Tryd.pinned (.plain (OpenSpec.ofChange fnSpoolDoneSpec)) fnSpoolDoneCard

/-- THE TIED CARD OF 'laws.FnBounce'. -/
def fnBounceCard : Claim7 := { stood := { row := fnBounceRow, standIns := [], harness := (true, "6f022ac0718f4313ac542f4ad5aa7bdd3615d887199e1e508a1785765b18d2c2"), looks := false }, kinds := [], alts := [], laidByText := true, laidKinds := [.data, .pinned], laidTests := true, laidLooks := .later }
def FnBounceCardSaid : Prop := Claim7.holds Tryd.pinned (.plain (OpenSpec.ofChange fnBounceSpec)) fnBounceCard

/-- THE TIED CARD OF 'laws.FnExactBounceOf'. -/
def fnExactBounceOfCard : Claim7 := { stood := { row := fnExactBounceOfRow, standIns := [], harness := (true, "6f022ac0718f4313ac542f4ad5aa7bdd3615d887199e1e508a1785765b18d2c2"), looks := false }, kinds := [], alts := [], laidByText := true, laidKinds := [.data, .pinned], laidTests := true, laidLooks := .later }
def FnExactBounceOfCardSaid : Prop := Claim7.holds Tryd.pinned (.plain (OpenSpec.ofChange fnExactBounceOfSpec)) fnExactBounceOfCard

/-- THE TIED CARD OF 'laws.FnHostNew'. -/
def fnHostNewCard : Claim7 := { stood := { row := fnHostNewRow, standIns := [], harness := (true, "6f022ac0718f4313ac542f4ad5aa7bdd3615d887199e1e508a1785765b18d2c2"), looks := false }, kinds := [], alts := [], laidByText := true, laidKinds := [.data, .pinned], laidTests := true, laidLooks := .later }
def FnHostNewCardSaid : Prop := Claim7.holds Tryd.pinned (.plain (OpenSpec.ofChange fnHostNewSpec)) fnHostNewCard

/-- THE TIED CARD OF 'laws.FnExactAliasOk'. -/
def fnExactAliasOkCard : Claim7 := { stood := { row := fnExactAliasOkRow, standIns := [], harness := (true, "6f022ac0718f4313ac542f4ad5aa7bdd3615d887199e1e508a1785765b18d2c2"), looks := false }, kinds := [], alts := [], laidByText := true, laidKinds := [.data, .pinned], laidTests := true, laidLooks := .later }
def FnExactAliasOkCardSaid : Prop := Claim7.holds Tryd.pinned (.plain (OpenSpec.ofChange fnExactAliasOkSpec)) fnExactAliasOkCard

/-- THE SECOND FORM's CARD OF 'laws.FnExactSpoolOk'. -/
def fnExactSpoolOkUptoCard : Claim7 := { stood := { row := fnExactSpoolOkUptoRow, standIns := [], harness := (true, "6f022ac0718f4313ac542f4ad5aa7bdd3615d887199e1e508a1785765b18d2c2"), looks := false }, kinds := [], alts := [], laidByText := true, laidKinds := [.data, .pinned], laidTests := true, laidLooks := .later }
def FnExactSpoolOkUptoCardSaid : Prop := Claim7.holds Tryd.pinned (.plain (OpenSpec.upto fnExactSpoolOkSpec)) fnExactSpoolOkUptoCard

/-- THE SECOND FORM's CARD OF 'laws.FnExactSpoolMany'. -/
def fnExactSpoolManyUptoCard : Claim7 := { stood := { row := fnExactSpoolManyUptoRow, standIns := [], harness := (true, "6f022ac0718f4313ac542f4ad5aa7bdd3615d887199e1e508a1785765b18d2c2"), looks := false }, kinds := [], alts := [], laidByText := true, laidKinds := [.data, .pinned], laidTests := true, laidLooks := .later }
def FnExactSpoolManyUptoCardSaid : Prop := Claim7.holds Tryd.pinned (.plain (OpenSpec.upto fnExactSpoolManySpec)) fnExactSpoolManyUptoCard

/-- THE SECOND FORM's CARD OF 'laws.FnExactSpoolDue'. -/
def fnExactSpoolDueUptoCard : Claim7 := { stood := { row := fnExactSpoolDueUptoRow, standIns := [], harness := (true, "6f022ac0718f4313ac542f4ad5aa7bdd3615d887199e1e508a1785765b18d2c2"), looks := false }, kinds := [], alts := [], laidByText := true, laidKinds := [.data, .pinned], laidTests := true, laidLooks := .later }
def FnExactSpoolDueUptoCardSaid : Prop := Claim7.holds Tryd.pinned (.plain (OpenSpec.upto fnExactSpoolDueSpec)) fnExactSpoolDueUptoCard

/-- THE SECOND FORM's CARD OF 'laws.FnSpoolDue'. -/
def fnSpoolDueUptoCard : Claim7 := { stood := { row := fnSpoolDueUptoRow, standIns := [], harness := (true, "6f022ac0718f4313ac542f4ad5aa7bdd3615d887199e1e508a1785765b18d2c2"), looks := false }, kinds := [], alts := [], laidByText := true, laidKinds := [.data, .pinned], laidTests := true, laidLooks := .later }
def FnSpoolDueUptoCardSaid : Prop := Claim7.holds Tryd.pinned (.plain (OpenSpec.upto fnSpoolDueSpec)) fnSpoolDueUptoCard

/-- THE SECOND FORM's CARD OF 'laws.FnSpoolLater'. -/
def fnSpoolLaterUptoCard : Claim7 := { stood := { row := fnSpoolLaterUptoRow, standIns := [], harness := (true, "6f022ac0718f4313ac542f4ad5aa7bdd3615d887199e1e508a1785765b18d2c2"), looks := false }, kinds := [], alts := [], laidByText := true, laidKinds := [.data, .pinned], laidTests := true, laidLooks := .later }
def FnSpoolLaterUptoCardSaid : Prop := Claim7.holds Tryd.pinned (.plain (OpenSpec.upto fnSpoolLaterSpec)) fnSpoolLaterUptoCard

/-- THE SECOND FORM's CARD OF 'laws.FnSpoolDone'. -/
def fnSpoolDoneUptoCard : Claim7 := { stood := { row := fnSpoolDoneUptoRow, standIns := [], harness := (true, "6f022ac0718f4313ac542f4ad5aa7bdd3615d887199e1e508a1785765b18d2c2"), looks := false }, kinds := [], alts := [], laidByText := true, laidKinds := [.data, .pinned], laidTests := true, laidLooks := .later }
def FnSpoolDoneUptoCardSaid : Prop := Claim7.holds Tryd.pinned (.plain (OpenSpec.upto fnSpoolDoneSpec)) fnSpoolDoneUptoCard

/-- THE SECOND FORM's CARD OF 'laws.FnBounce'. -/
def fnBounceUptoCard : Claim7 := { stood := { row := fnBounceUptoRow, standIns := [], harness := (true, "6f022ac0718f4313ac542f4ad5aa7bdd3615d887199e1e508a1785765b18d2c2"), looks := false }, kinds := [], alts := [], laidByText := true, laidKinds := [.data, .pinned], laidTests := true, laidLooks := .later }
def FnBounceUptoCardSaid : Prop := Claim7.holds Tryd.pinned (.plain (OpenSpec.upto fnBounceSpec)) fnBounceUptoCard

/-- THE SECOND FORM's CARD OF 'laws.FnExactBounceOf'. -/
def fnExactBounceOfUptoCard : Claim7 := { stood := { row := fnExactBounceOfUptoRow, standIns := [], harness := (true, "6f022ac0718f4313ac542f4ad5aa7bdd3615d887199e1e508a1785765b18d2c2"), looks := false }, kinds := [], alts := [], laidByText := true, laidKinds := [.data, .pinned], laidTests := true, laidLooks := .later }
def FnExactBounceOfUptoCardSaid : Prop := Claim7.holds Tryd.pinned (.plain (OpenSpec.upto fnExactBounceOfSpec)) fnExactBounceOfUptoCard

/-- THE SECOND FORM's CARD OF 'laws.FnHostNew'. -/
def fnHostNewUptoCard : Claim7 := { stood := { row := fnHostNewUptoRow, standIns := [], harness := (true, "6f022ac0718f4313ac542f4ad5aa7bdd3615d887199e1e508a1785765b18d2c2"), looks := false }, kinds := [], alts := [], laidByText := true, laidKinds := [.data, .pinned], laidTests := true, laidLooks := .later }
def FnHostNewUptoCardSaid : Prop := Claim7.holds Tryd.pinned (.plain (OpenSpec.upto fnHostNewSpec)) fnHostNewUptoCard

/-- THE SECOND FORM's CARD OF 'laws.FnExactAliasOk'. -/
def fnExactAliasOkUptoCard : Claim7 := { stood := { row := fnExactAliasOkUptoRow, standIns := [], harness := (true, "6f022ac0718f4313ac542f4ad5aa7bdd3615d887199e1e508a1785765b18d2c2"), looks := false }, kinds := [], alts := [], laidByText := true, laidKinds := [.data, .pinned], laidTests := true, laidLooks := .later }
def FnExactAliasOkUptoCardSaid : Prop := Claim7.holds Tryd.pinned (.plain (OpenSpec.upto fnExactAliasOkSpec)) fnExactAliasOkUptoCard
end Rows
end Go.Proofs.YtgchdgkoolllmaaDoor
