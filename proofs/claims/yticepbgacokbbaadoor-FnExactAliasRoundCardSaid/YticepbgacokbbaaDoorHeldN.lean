/- The laws' looks at marked structs: contracts. -/
import Derived.Test.YticepbgacokbbaaDoorMarkN
import Derived.Test.YticepbgacokbbaaDoorHeld
namespace Go.Proofs.YticepbgacokbbaaDoor
open Go.RowKit Go.Proofs.YticepbgacokbbaaDoorW.PrintWords
set_option linter.unusedVariables false
set_option linter.unusedSimpArgs false

end Go.Proofs.YticepbgacokbbaaDoor
