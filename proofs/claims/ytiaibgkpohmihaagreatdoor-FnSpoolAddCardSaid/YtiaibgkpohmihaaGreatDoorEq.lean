/- The laws' comparisons, of the same twice: contracts. -/
import Derived.Test.YtiaibgkpohmihaaGreatDoorKit0
import Derived.StillTailTactics
namespace Go.Proofs.YtiaibgkpohmihaaGreatDoor
open Go.RowKit Go.Proofs.YtiaibgkpohmihaaGreatDoorW.PrintWords
set_option linter.unusedVariables false
set_option linter.unusedSimpArgs false

theorem drew_below (w : World) : Below w.heap.size w w.drew := ⟨rfl, rfl, rfl, Nat.le_refl _, fun _ _ => rfl⟩

end Go.Proofs.YtiaibgkpohmihaaGreatDoor
