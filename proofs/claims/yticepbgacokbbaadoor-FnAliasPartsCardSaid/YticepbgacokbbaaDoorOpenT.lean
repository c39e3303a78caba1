/- From what the form reads of an argument to the kinds of the walks, type by type. -/
import Derived.Test.YticepbgacokbbaaDoorOpen
import Derived.Test.YticepbgacokbbaaDoorBase
namespace Go.Proofs.YticepbgacokbbaaDoor
open Go.RowKit Go.Proofs.YticepbgacokbbaaDoorW.PrintWords
set_option linter.unusedVariables false
set_option linter.unusedSimpArgs false
theorem opens_Addr : Opens Tryd.prog 42 kAddr (fun x => wideAddr x) := opens_imp (opens_iso (fun x : SAddr => (x.f0, x.f1)) (fun p => ⟨p.1, p.2⟩) (fun _ => rfl) (opens_struct Tryd.underlying42 (l := [(9, 1), (9, 1)]) (by kernel_rfl) (by kernel_rfl) (opensF_cons (opens_string Tryd.underlying9) (opensF_one (opens_string Tryd.underlying9))))) (fun x h => ⟨h.1, h.2⟩)
theorem opens_S_str : Opens Tryd.prog 88 (Kd.slice 9 Kd.string) (fun xs => (xs.length ≤ 9223372036854775807 ∧ ∀ y ∈ xs, y.size ≤ 9223372036854775807)) := fun enc w base spare held fuel cs x h => opens_slice (e := 9) Tryd.underlying88 (by kernel_rfl) (opens_string Tryd.underlying9) enc w base spare held fuel cs x h
theorem opens_S_int : Opens Tryd.prog 106 (Kd.slice 3 (Kd.int .i64)) (fun xs => (xs.length ≤ 9223372036854775807 ∧ ∀ y ∈ xs, (Lit.int .i64 y).wf = true)) := fun enc w base spare held fuel cs x h => opens_slice (e := 3) Tryd.underlying106 (by kernel_rfl) (opens_int Tryd.underlying3) enc w base spare held fuel cs x h
theorem opens_S_Addr : Opens Tryd.prog 72 (Kd.slice 30 kAddr) (fun xs => (xs.length ≤ 9223372036854775807 ∧ ∀ y ∈ xs, wideAddr y)) := fun enc w base spare held fuel cs x h => opens_slice (e := 42) Tryd.underlying72 (by kernel_rfl) opens_Addr enc w base spare held fuel cs x h
theorem opens_Alias : Opens Tryd.prog 74 kAlias (fun x => wideAlias x) := opens_imp (opens_iso (fun x : SAlias => (x.f0, x.f1)) (fun p => ⟨p.1, p.2⟩) (fun _ => rfl) (opens_struct Tryd.underlying74 (l := [(42, 2), (72, 1)]) (by kernel_rfl) (by kernel_rfl) (opensF_cons opens_Addr (opensF_one opens_S_Addr)))) (fun x h => ⟨h.1, h.2⟩)
theorem opens_S_Alias : Opens Tryd.prog 41 (Kd.slice 32 kAlias) (fun xs => (xs.length ≤ 9223372036854775807 ∧ ∀ y ∈ xs, wideAlias y)) := fun enc w base spare held fuel cs x h => opens_slice (e := 74) Tryd.underlying41 (by kernel_rfl) opens_Alias enc w base spare held fuel cs x h
theorem opens_S_byte : Opens Tryd.prog 22 (Kd.slice 5 (Kd.int .u8)) (fun xs => (xs.length ≤ 9223372036854775807 ∧ ∀ y ∈ xs, (Lit.int .u8 y).wf = true)) := fun enc w base spare held fuel cs x h => opens_slice (e := 5) Tryd.underlying22 (by kernel_rfl) (opens_int Tryd.underlying5) enc w base spare held fuel cs x h
end Go.Proofs.YticepbgacokbbaaDoor
