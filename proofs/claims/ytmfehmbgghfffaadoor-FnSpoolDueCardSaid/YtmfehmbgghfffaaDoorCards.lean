/-
  DERIVED. GIVEN WITH THE SEED: THE CARDS: each row of YtmfehmbgghfffaaDoorRows.lean that lists a variable, with what it lists TIED to the program's text (the seventh form; the later family's looks); each row that meets fmt, with fmt's text TOLD by the authors' own Lean function (tested against real Go, not proved from fmt's source: count such statements apart). THE CARD IS WHAT COUNTS. Prove the row's statement (the work); the ties are given (YtmfehmbgghfffaaDoorTie.lean); close each card by the builder's one call (the guide's Derived/Test/ToyasCard.lean, 'card_holds'). Laid BY PROGRAM, IN A SANDBOX (cutbox-door.mjs). By AI agents, Wed Nov 11 2026. No macro, syntax, notation, axiom, sorry.
-/
import Derived.Test.YtmfehmbgghfffaaDoorRows
import GoSem.ClaimSeven
namespace Go.Proofs.YtmfehmbgghfffaaDoor
namespace Rows

/-- THE TIED CARD OF 'laws.FnSpoolDue'. -/
def fnSpoolDueCard : Claim7 := { stood := { row := fnSpoolDueRow, standIns := [], harness := (true, "e3e5cbc07e08fcaa30c1ddff7ce8804bb1e364800dbbda3604f539fb3dce3121"), looks := false }, kinds := [], alts := [], laidByText := true, laidKinds := [.data, .pinned], laidTests := true, laidLooks := .later }
def FnSpoolDueCardSaid : Prop := Claim7.holds Tryd.pinned (.plain (OpenSpec.ofChange fnSpoolDueSpec)) fnSpoolDueCard

/-- THE TIED CARD OF 'laws.FnSieveTidy'. -/
def fnSieveTidyCard : Claim7 := { stood := { row := fnSieveTidyRow, standIns := [], harness := (true, "e3e5cbc07e08fcaa30c1ddff7ce8804bb1e364800dbbda3604f539fb3dce3121"), looks := false }, kinds := [], alts := [], laidByText := true, laidKinds := [.data, .pinned], laidTests := true, laidLooks := .later }
def FnSieveTidyCardSaid : Prop := Claim7.holds Tryd.pinned (.plain (OpenSpec.ofChange fnSieveTidySpec)) fnSieveTidyCard

/-- THE TIED CARD OF 'laws.FnBounce'. -/
def fnBounceCard : Claim7 := { stood := { row := fnBounceRow, standIns := [], harness := (true, "e3e5cbc07e08fcaa30c1ddff7ce8804bb1e364800dbbda3604f539fb3dce3121"), looks := false }, kinds := [], alts := [], laidByText := true, laidKinds := [.data, .pinned], laidTests := true, laidLooks := .later }
def FnBounceCardSaid : Prop := Claim7.holds Tryd.pinned (.plain (OpenSpec.ofChange fnBounceSpec)) fnBounceCard

/-- THE TIED CARD OF 'laws.FnSieveDo'. -/
def fnSieveDoCard : Claim7 := { stood := { row := fnSieveDoRow, standIns := [], harness := (true, "e3e5cbc07e08fcaa30c1ddff7ce8804bb1e364800dbbda3604f539fb3dce3121"), looks := false }, kinds := [], alts := [], laidByText := true, laidKinds := [.data, .pinned], laidTests := true, laidLooks := .later }
def FnSieveDoCardSaid : Prop := Claim7.holds Tryd.pinned (.plain (OpenSpec.ofChange fnSieveDoSpec)) fnSieveDoCard

/-- THE TIED CARD OF 'laws.FnSpoolLater'. -/
def fnSpoolLaterCard : Claim7 := { stood := { row := fnSpoolLaterRow, standIns := [], harness := (true, "e3e5cbc07e08fcaa30c1ddff7ce8804bb1e364800dbbda3604f539fb3dce3121"), looks := false }, kinds := [], alts := [], laidByText := true, laidKinds := [.data, .pinned], laidTests := true, laidLooks := .later }
def FnSpoolLaterCardSaid : Prop := Claim7.holds Tryd.pinned (.plain (OpenSpec.ofChange fnSpoolLaterSpec)) fnSpoolLaterCard

/-- THE TIED CARD OF 'laws.FnSpoolDone'. -/
def fnSpoolDoneCard : Claim7 := { stood := { row := fnSpoolDoneRow, standIns := [], harness := (true, "e3e5cbc07e08fcaa30c1ddff7ce8804bb1e364800dbbda3604f539fb3dce3121"), looks := false }, kinds := [], alts := [], laidByText := true, laidKinds := [.data, .pinned], laidTests := true, laidLooks := .later }
def FnSpoolDoneCardSaid : Prop := Claim7.holds Tryd.pinned (.plain (OpenSpec.ofChange fnSpoolDoneSpec)) fnSpoolDoneCard

/-- THE SECOND FORM's CARD OF 'laws.FnSpoolDue'. -/
def fnSpoolDueUptoCard : Claim7 := { stood := { row := fnSpoolDueUptoRow, standIns := [], harness := (true, "e3e5cbc07e08fcaa30c1ddff7ce8804bb1e364800dbbda3604f539fb3dce3121"), looks := false }, kinds := [], alts := [], laidByText := true, laidKinds := [.data, .pinned], laidTests := true, laidLooks := .later }
def FnSpoolDueUptoCardSaid : Prop := Claim7.holds Tryd.pinned (.plain (OpenSpec.upto fnSpoolDueSpec)) fnSpoolDueUptoCard

/-- THE SECOND FORM's CARD OF 'laws.FnSieveTidy'. -/
def fnSieveTidyUptoCard : Claim7 := { stood := { row := fnSieveTidyUptoRow, standIns := [], harness := (true, "e3e5cbc07e08fcaa30c1ddff7ce8804bb1e364800dbbda3604f539fb3dce3121"), looks := false }, kinds := [], alts := [], laidByText := true, laidKinds := [.data, .pinned], laidTests := true, laidLooks := .later }
def FnSieveTidyUptoCardSaid : Prop := Claim7.holds Tryd.pinned (.plain (OpenSpec.upto fnSieveTidySpec)) fnSieveTidyUptoCard

/-- THE SECOND FORM's CARD OF 'laws.FnBounce'. -/
def fnBounceUptoCard : Claim7 := { stood := { row := fnBounceUptoRow, standIns := [], harness := (true, "e3e5cbc07e08fcaa30c1ddff7ce8804bb1e364800dbbda3604f539fb3dce3121"), looks := false }, kinds := [], alts := [], laidByText := true, laidKinds := [.data, .pinned], laidTests := true, laidLooks := .later }
def FnBounceUptoCardSaid : Prop := Claim7.holds Tryd.pinned (.plain (OpenSpec.upto fnBounceSpec)) fnBounceUptoCard

/-- THE SECOND FORM's CARD OF 'laws.FnSieveDo'. -/
def fnSieveDoUptoCard : Claim7 := { stood := { row := fnSieveDoUptoRow, standIns := [], harness := (true, "e3e5cbc07e08fcaa30c1ddff7ce8804bb1e364800dbbda3604f539fb3dce3121"), looks := false }, kinds := [], alts := [], laidByText := true, laidKinds := [.data, .pinned], laidTests := true, laidLooks := .later }
def FnSieveDoUptoCardSaid : Prop := Claim7.holds Tryd.pinned (.plain (OpenSpec.upto fnSieveDoSpec)) fnSieveDoUptoCard

/-- THE SECOND FORM's CARD OF 'laws.FnSpoolLater'. -/
def fnSpoolLaterUptoCard : Claim7 := { stood := { row := fnSpoolLaterUptoRow, standIns := [], harness := (true, "e3e5cbc07e08fcaa30c1ddff7ce8804bb1e364800dbbda3604f539fb3dce3121"), looks := false }, kinds := [], alts := [], laidByText := true, laidKinds := [.data, .pinned], laidTests := true, laidLooks := .later }
def FnSpoolLaterUptoCardSaid : Prop := Claim7.holds Tryd.pinned (.plain (OpenSpec.upto fnSpoolLaterSpec)) fnSpoolLaterUptoCard

/-- THE SECOND FORM's CARD OF 'laws.FnSpoolDone'. -/
def fnSpoolDoneUptoCard : Claim7 := { stood := { row := fnSpoolDoneUptoRow, standIns := [], harness := (true, "e3e5cbc07e08fcaa30c1ddff7ce8804bb1e364800dbbda3604f539fb3dce3121"), looks := false }, kinds := [], alts := [], laidByText := true, laidKinds := [.data, .pinned], laidTests := true, laidLooks := .later }
def FnSpoolDoneUptoCardSaid : Prop := Claim7.holds Tryd.pinned (.plain (OpenSpec.upto fnSpoolDoneSpec)) fnSpoolDoneUptoCard
end Rows
end Go.Proofs.YtmfehmbgghfffaaDoor
