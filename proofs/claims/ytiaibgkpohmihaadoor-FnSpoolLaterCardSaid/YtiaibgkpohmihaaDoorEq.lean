/- The laws' comparisons, of the same twice: contracts. -/
import Derived.Test.YtiaibgkpohmihaaDoorKit0
import Derived.StillTailTactics
namespace Go.Proofs.YtiaibgkpohmihaaDoor
open Go.RowKit Go.Proofs.YtiaibgkpohmihaaDoorW.PrintWords
set_option linter.unusedVariables false
set_option linter.unusedSimpArgs false

theorem drew_below (w : World) : Below w.heap.size w w.drew := ⟨rfl, rfl, rfl, Nat.le_refl _, fun _ _ => rfl⟩

end Go.Proofs.YtiaibgkpohmihaaDoor
