/- From what the form reads of an argument to the kinds of the walks, type by type. -/
import Derived.Test.YticepbgacokbbaaGreatDoorOpen
import Derived.Test.YticepbgacokbbaaGreatDoorBase
namespace Go.Proofs.YticepbgacokbbaaGreatDoor
open Go.RowKit Go.Proofs.YticepbgacokbbaaGreatDoorW.PrintWords
set_option linter.unusedVariables false
set_option linter.unusedSimpArgs false
theorem opens_Addr : Opens Tryz.prog 40 kAddr (fun x => wideAddr x) := opens_imp (opens_iso (fun x : SAddr => (x.f0, x.f1)) (fun p => ⟨p.1, p.2⟩) (fun _ => rfl) (opens_struct Tryz.underlying40 (l := [(9, 1), (9, 1)]) (by kernel_rfl) (by kernel_rfl) (opensF_cons (opens_string Tryz.underlying9) (opensF_one (opens_string Tryz.underlying9))))) (fun x h => ⟨h.1, h.2⟩)
theorem opens_S_str : Opens Tryz.prog 27 (Kd.slice 9 Kd.string) (fun xs => (xs.length ≤ 9223372036854775807 ∧ ∀ y ∈ xs, y.size ≤ 9223372036854775807)) := fun enc w base spare held fuel cs x h => opens_slice (e := 9) Tryz.underlying27 (by kernel_rfl) (opens_string Tryz.underlying9) enc w base spare held fuel cs x h
theorem opens_S_int : Opens Tryz.prog 104 (Kd.slice 3 (Kd.int .i64)) (fun xs => (xs.length ≤ 9223372036854775807 ∧ ∀ y ∈ xs, (Lit.int .i64 y).wf = true)) := fun enc w base spare held fuel cs x h => opens_slice (e := 3) Tryz.underlying104 (by kernel_rfl) (opens_int Tryz.underlying3) enc w base spare held fuel cs x h
theorem opens_S_Addr : Opens Tryz.prog 41 (Kd.slice 25 kAddr) (fun xs => (xs.length ≤ 9223372036854775807 ∧ ∀ y ∈ xs, wideAddr y)) := fun enc w base spare held fuel cs x h => opens_slice (e := 40) Tryz.underlying41 (by kernel_rfl) opens_Addr enc w base spare held fuel cs x h
theorem opens_Alias : Opens Tryz.prog 77 kAlias (fun x => wideAlias x) := opens_imp (opens_iso (fun x : SAlias => (x.f0, x.f1)) (fun p => ⟨p.1, p.2⟩) (fun _ => rfl) (opens_struct Tryz.underlying77 (l := [(40, 2), (41, 1)]) (by kernel_rfl) (by kernel_rfl) (opensF_cons opens_Addr (opensF_one opens_S_Addr)))) (fun x h => ⟨h.1, h.2⟩)
theorem opens_S_Alias : Opens Tryz.prog 39 (Kd.slice 58 kAlias) (fun xs => (xs.length ≤ 9223372036854775807 ∧ ∀ y ∈ xs, wideAlias y)) := fun enc w base spare held fuel cs x h => opens_slice (e := 77) Tryz.underlying39 (by kernel_rfl) opens_Alias enc w base spare held fuel cs x h
theorem opens_Mail : Opens Tryz.prog 43 kMail (fun x => wideMail x) := opens_imp (opens_iso (fun x : SMail => (x.f0, x.f1, x.f2)) (fun p => ⟨p.1, p.2.1, p.2.2⟩) (fun _ => rfl) (opens_struct Tryz.underlying43 (l := [(40, 2), (41, 1), (27, 1)]) (by kernel_rfl) (by kernel_rfl) (opensF_cons opens_Addr (opensF_cons opens_S_Addr (opensF_one opens_S_str))))) (fun x h => ⟨h.1, h.2.1, h.2.2⟩)
theorem opens_S_byte : Opens Tryz.prog 22 (Kd.slice 5 (Kd.int .u8)) (fun xs => (xs.length ≤ 9223372036854775807 ∧ ∀ y ∈ xs, (Lit.int .u8 y).wf = true)) := fun enc w base spare held fuel cs x h => opens_slice (e := 5) Tryz.underlying22 (by kernel_rfl) (opens_int Tryz.underlying5) enc w base spare held fuel cs x h
end Go.Proofs.YticepbgacokbbaaGreatDoor
