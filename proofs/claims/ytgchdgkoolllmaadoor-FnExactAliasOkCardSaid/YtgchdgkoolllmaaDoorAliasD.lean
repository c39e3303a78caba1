/- Aliases in plain words. -/
import Derived.Test.YtgchdgkoolllmaaDoorSpoolD
namespace Go.Proofs.YtgchdgkoolllmaaDoor
open Go.RowKit Go.Proofs.YtgchdgkoolllmaaDoorW.PrintWords
set_option linter.unusedVariables false
set_option linter.unusedSimpArgs false

def aliasGood (a : SAlias) : Bool := addrS a.f0 && ((decide (1 ≤ (a.f1.length : Int)) && decide ((a.f1.length : Int) ≤ 4)) && a.f1.all addrS)
def aliasOk (xs : List SAlias) : Bool := xs.all aliasGood && (decide ((xs.map (·.f0)).Nodup) && decide ((xs.length : Int) ≤ 6))
end Go.Proofs.YtgchdgkoolllmaaDoor
