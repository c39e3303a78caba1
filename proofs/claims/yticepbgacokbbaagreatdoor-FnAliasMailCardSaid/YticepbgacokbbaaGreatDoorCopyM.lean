/- Copies of mails, of the program: a contract. -/
import Derived.Test.YticepbgacokbbaaGreatDoorClone
import Derived.Test.YticepbgacokbbaaGreatDoorBlk
namespace Go.Proofs.YticepbgacokbbaaGreatDoor
open Go.RowKit Go.Proofs.YticepbgacokbbaaGreatDoorW.PrintWords
set_option linter.unusedVariables false
set_option linter.unusedSimpArgs false

end Go.Proofs.YticepbgacokbbaaGreatDoor
