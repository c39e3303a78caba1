/- Aliases in plain words. -/
import Derived.Test.YticepbgacokbbaaGreatDoorSpoolD
namespace Go.Proofs.YticepbgacokbbaaGreatDoor
open Go.RowKit Go.Proofs.YticepbgacokbbaaGreatDoorW.PrintWords
set_option linter.unusedVariables false
set_option linter.unusedSimpArgs false

def aliasGood (a : SAlias) : Bool := addrS a.f0 && ((decide (1 ≤ (a.f1.length : Int)) && decide ((a.f1.length : Int) ≤ 4)) && a.f1.all addrS)
def aliasOk (xs : List SAlias) : Bool := xs.all aliasGood && (decide ((xs.map (·.f0)).Nodup) && decide ((xs.length : Int) ≤ 6))
end Go.Proofs.YticepbgacokbbaaGreatDoor
