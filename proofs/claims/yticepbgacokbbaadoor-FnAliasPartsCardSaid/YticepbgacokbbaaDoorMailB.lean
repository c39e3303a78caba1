/- isBody, sender, MailOk of the program: their answers in plain words. -/
import Derived.Test.YticepbgacokbbaaDoorDistinct2
import Derived.Test.YticepbgacokbbaaDoorIdxT
namespace Go.Proofs.YticepbgacokbbaaDoor
open Go.RowKit Go.Proofs.YticepbgacokbbaaDoorW.PrintWords P
set_option linter.unusedVariables false
set_option linter.unusedSimpArgs false

def BodyFit (body : List ByteArray) : Prop := body.length ≤ 4611686018427387904 ∧ ∀ x ∈ body, x.size < 4294967281
def ToFit (tos : List SAddr) : Prop := tos.length ≤ 1099511627776 ∧ ∀ x ∈ tos, AFit x
def addrS (x : SAddr) : Bool := addr x.f0.data.toList x.f1.data.toList
def bodyOk (xs : List ByteArray) : Bool := decide (xs.length ≤ 12) && xs.all fun s => line s.data.toList
def mailOk (u d : List UInt8) (tos : List SAddr) (body : List ByteArray) : Bool :=
 (nul u d || addr u d) && ((decide (1 ≤ (tos.length : Int)) && decide ((tos.length : Int) ≤ 4)) && (tos.all addrS && (decide tos.Nodup && bodyOk body)))
end Go.Proofs.YticepbgacokbbaaDoor
