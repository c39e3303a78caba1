/- Copies of mails, of the program: a contract. -/
import Derived.Test.YtiaibgkpohmihaaDoorClone
import Derived.Test.YtiaibgkpohmihaaDoorBlk
namespace Go.Proofs.YtiaibgkpohmihaaDoor
open Go.RowKit Go.Proofs.YtiaibgkpohmihaaDoorW.PrintWords
set_option linter.unusedVariables false
set_option linter.unusedSimpArgs false

end Go.Proofs.YtiaibgkpohmihaaDoor
