/- From what the form reads of an argument to the kinds of the walks, type by type. -/
import Derived.Test.YtiaibgkpohmihaaDoorOpen
import Derived.Test.YtiaibgkpohmihaaDoorBase
namespace Go.Proofs.YtiaibgkpohmihaaDoor
open Go.RowKit Go.Proofs.YtiaibgkpohmihaaDoorW.PrintWords
set_option linter.unusedVariables false
set_option linter.unusedSimpArgs false
theorem opens_S_str : Opens Tryd.prog 26 (Kd.slice 9 Kd.string) (fun xs => (xs.length ≤ 9223372036854775807 ∧ ∀ y ∈ xs, y.size ≤ 9223372036854775807)) := fun enc w base spare held fuel cs x h => opens_slice (e := 9) Tryd.underlying26 (by kernel_rfl) (opens_string Tryd.underlying9) enc w base spare held fuel cs x h
theorem opens_S_int : Opens Tryd.prog 86 (Kd.slice 3 (Kd.int .i64)) (fun xs => (xs.length ≤ 9223372036854775807 ∧ ∀ y ∈ xs, (Lit.int .i64 y).wf = true)) := fun enc w base spare held fuel cs x h => opens_slice (e := 3) Tryd.underlying86 (by kernel_rfl) (opens_int Tryd.underlying3) enc w base spare held fuel cs x h
theorem opens_S_byte : Opens Tryd.prog 22 (Kd.slice 5 (Kd.int .u8)) (fun xs => (xs.length ≤ 9223372036854775807 ∧ ∀ y ∈ xs, (Lit.int .u8 y).wf = true)) := fun enc w base spare held fuel cs x h => opens_slice (e := 5) Tryd.underlying22 (by kernel_rfl) (opens_int Tryd.underlying5) enc w base spare held fuel cs x h
end Go.Proofs.YtiaibgkpohmihaaDoor
