/- Aliases in plain words. -/
import Derived.Test.YticepbgacokbbaaDoorSpoolD
namespace Go.Proofs.YticepbgacokbbaaDoor
open Go.RowKit Go.Proofs.YticepbgacokbbaaDoorW.PrintWords
set_option linter.unusedVariables false
set_option linter.unusedSimpArgs false

def aliasGood (a : SAlias) : Bool := addrS a.f0 && ((decide (1 ≤ (a.f1.length : Int)) && decide ((a.f1.length : Int) ≤ 4)) && a.f1.all addrS)
def aliasOk (xs : List SAlias) : Bool := xs.all aliasGood && (decide ((xs.map (·.f0)).Nodup) && decide ((xs.length : Int) ≤ 6))
end Go.Proofs.YticepbgacokbbaaDoor
