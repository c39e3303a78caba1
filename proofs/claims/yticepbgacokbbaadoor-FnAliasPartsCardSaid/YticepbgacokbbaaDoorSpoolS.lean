/- The reference's words on bodies, recipients: contracts. -/
import Derived.Test.YticepbgacokbbaaDoorSpecC
import Derived.Test.YticepbgacokbbaaDoorSpoolD
namespace Go.Proofs.YticepbgacokbbaaDoor
open Go.RowKit Go.Proofs.YticepbgacokbbaaDoorW.PrintWords
set_option linter.unusedVariables false
set_option linter.unusedSimpArgs false
end Go.Proofs.YticepbgacokbbaaDoor
