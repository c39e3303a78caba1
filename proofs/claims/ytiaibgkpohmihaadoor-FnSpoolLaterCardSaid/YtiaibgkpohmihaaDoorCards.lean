/-
  DERIVED. GIVEN WITH THE SEED: THE CARDS: each row of YtiaibgkpohmihaaDoorRows.lean that lists a variable, with what it lists TIED to the program's text (the seventh form; the later family's looks); each row that meets fmt, with fmt's text TOLD by the authors' own Lean function (tested against real Go, not proved from fmt's source: count such statements apart). THE CARD IS WHAT COUNTS. Prove the row's statement (the work); the ties are given (YtiaibgkpohmihaaDoorTie.lean); close each card by the builder's one call (the guide's Derived/Test/ToyasCard.lean, 'card_holds'). Laid BY PROGRAM, IN A SANDBOX (cutbox-door.mjs). By AI agents, Wed Nov 11 2026. No macro, syntax, notation, axiom, sorry.
-/
import Derived.Test.YtiaibgkpohmihaaDoorRows
import GoSem.ClaimSeven
namespace Go.Proofs.YtiaibgkpohmihaaDoor
namespace Rows

/-- THE TIED CARD OF 'laws.FnBounce'. -/
def fnBounceCard : Claim7 := { stood := { row := fnBounceRow, standIns := [], harness := (true, "1266f8b3a68364ec66f2c9f1162a68dac275ebe168fe95adcc7155d188f2c61f"), looks := false }, kinds := [], alts := [], laidByText := true, laidKinds := [.data, .pinned], laidTests := true, laidLooks := .later }
def FnBounceCardSaid : Prop := Claim7.holds Tryd.pinned (.plain (OpenSpec.ofChange fnBounceSpec)) fnBounceCard

/-- THE TIED CARD OF 'laws.FnSpoolDone'. -/
def fnSpoolDoneCard : Claim7 := { stood := { row := fnSpoolDoneRow, standIns := [], harness := (true, "1266f8b3a68364ec66f2c9f1162a68dac275ebe168fe95adcc7155d188f2c61f"), looks := false }, kinds := [], alts := [], laidByText := true, laidKinds := [.data, .pinned], laidTests := true, laidLooks := .later }
def FnSpoolDoneCardSaid : Prop := Claim7.holds Tryd.pinned (.plain (OpenSpec.ofChange fnSpoolDoneSpec)) fnSpoolDoneCard

/-- THE TIED CARD OF 'laws.FnSpoolLater'. -/
def fnSpoolLaterCard : Claim7 := { stood := { row := fnSpoolLaterRow, standIns := [], harness := (true, "1266f8b3a68364ec66f2c9f1162a68dac275ebe168fe95adcc7155d188f2c61f"), looks := false }, kinds := [], alts := [], laidByText := true, laidKinds := [.data, .pinned], laidTests := true, laidLooks := .later }
def FnSpoolLaterCardSaid : Prop := Claim7.holds Tryd.pinned (.plain (OpenSpec.ofChange fnSpoolLaterSpec)) fnSpoolLaterCard

/-- THE SECOND FORM's CARD OF 'laws.FnBounce'. -/
def fnBounceUptoCard : Claim7 := { stood := { row := fnBounceUptoRow, standIns := [], harness := (true, "1266f8b3a68364ec66f2c9f1162a68dac275ebe168fe95adcc7155d188f2c61f"), looks := false }, kinds := [], alts := [], laidByText := true, laidKinds := [.data, .pinned], laidTests := true, laidLooks := .later }
def FnBounceUptoCardSaid : Prop := Claim7.holds Tryd.pinned (.plain (OpenSpec.upto fnBounceSpec)) fnBounceUptoCard

/-- THE SECOND FORM's CARD OF 'laws.FnSpoolDone'. -/
def fnSpoolDoneUptoCard : Claim7 := { stood := { row := fnSpoolDoneUptoRow, standIns := [], harness := (true, "1266f8b3a68364ec66f2c9f1162a68dac275ebe168fe95adcc7155d188f2c61f"), looks := false }, kinds := [], alts := [], laidByText := true, laidKinds := [.data, .pinned], laidTests := true, laidLooks := .later }
def FnSpoolDoneUptoCardSaid : Prop := Claim7.holds Tryd.pinned (.plain (OpenSpec.upto fnSpoolDoneSpec)) fnSpoolDoneUptoCard

/-- THE SECOND FORM's CARD OF 'laws.FnSpoolLater'. -/
def fnSpoolLaterUptoCard : Claim7 := { stood := { row := fnSpoolLaterUptoRow, standIns := [], harness := (true, "1266f8b3a68364ec66f2c9f1162a68dac275ebe168fe95adcc7155d188f2c61f"), looks := false }, kinds := [], alts := [], laidByText := true, laidKinds := [.data, .pinned], laidTests := true, laidLooks := .later }
def FnSpoolLaterUptoCardSaid : Prop := Claim7.holds Tryd.pinned (.plain (OpenSpec.upto fnSpoolLaterSpec)) fnSpoolLaterUptoCard
end Rows
end Go.Proofs.YtiaibgkpohmihaaDoor
