/- From what the form reads of an argument to the kinds of the walks, type by type. -/
import Derived.Test.YtoppgnmnbbhghaaGreatDoorOpen
import Derived.Test.YtoppgnmnbbhghaaGreatDoorBase
namespace Go.Proofs.YtoppgnmnbbhghaaGreatDoor
open Go.RowKit Go.Proofs.YtoppgnmnbbhghaaGreatDoorW.PrintWords
set_option linter.unusedVariables false
set_option linter.unusedSimpArgs false
theorem opens_Addr : Opens Tryz.prog 56 kAddr (fun x => wideAddr x) := opens_imp (opens_iso (fun x : SAddr => (x.f0, x.f1)) (fun p => ⟨p.1, p.2⟩) (fun _ => rfl) (opens_struct Tryz.underlying56 (l := [(9, 1), (9, 1)]) (by kernel_rfl) (by kernel_rfl) (opensF_cons (opens_string Tryz.underlying9) (opensF_one (opens_string Tryz.underlying9))))) (fun x h => ⟨h.1, h.2⟩)
theorem opens_S_str : Opens Tryz.prog 26 (Kd.slice 9 Kd.string) (fun xs => (xs.length ≤ 9223372036854775807 ∧ ∀ y ∈ xs, y.size ≤ 9223372036854775807)) := fun enc w base spare held fuel cs x h => opens_slice (e := 9) Tryz.underlying26 (by kernel_rfl) (opens_string Tryz.underlying9) enc w base spare held fuel cs x h
theorem opens_S_int : Opens Tryz.prog 29 (Kd.slice 3 (Kd.int .i64)) (fun xs => (xs.length ≤ 9223372036854775807 ∧ ∀ y ∈ xs, (Lit.int .i64 y).wf = true)) := fun enc w base spare held fuel cs x h => opens_slice (e := 3) Tryz.underlying29 (by kernel_rfl) (opens_int Tryz.underlying3) enc w base spare held fuel cs x h
theorem opens_S_Addr : Opens Tryz.prog 57 (Kd.slice 24 kAddr) (fun xs => (xs.length ≤ 9223372036854775807 ∧ ∀ y ∈ xs, wideAddr y)) := fun enc w base spare held fuel cs x h => opens_slice (e := 56) Tryz.underlying57 (by kernel_rfl) opens_Addr enc w base spare held fuel cs x h
theorem opens_Mail : Opens Tryz.prog 59 kMail (fun x => wideMail x) := opens_imp (opens_iso (fun x : SMail => (x.f0, x.f1, x.f2)) (fun p => ⟨p.1, p.2.1, p.2.2⟩) (fun _ => rfl) (opens_struct Tryz.underlying59 (l := [(56, 2), (57, 1), (26, 1)]) (by kernel_rfl) (by kernel_rfl) (opensF_cons opens_Addr (opensF_cons opens_S_Addr (opensF_one opens_S_str))))) (fun x h => ⟨h.1, h.2.1, h.2.2⟩)
theorem opens_Cli : Opens Tryz.prog 61 kCli (fun x => wideCli x) := opens_imp (opens_iso (fun x : SCli => (x.f0, x.f1, x.f2, x.f3, x.f4)) (fun p => ⟨p.1, p.2.1, p.2.2.1, p.2.2.2.1, p.2.2.2.2⟩) (fun _ => rfl) (opens_struct Tryz.underlying61 (l := [(9, 1), (59, 4), (3, 1), (3, 1), (29, 1)]) (by kernel_rfl) (by kernel_rfl) (opensF_cons (opens_string Tryz.underlying9) (opensF_cons opens_Mail (opensF_cons (opens_int Tryz.underlying3) (opensF_cons (opens_int Tryz.underlying3) (opensF_one opens_S_int))))))) (fun x h => ⟨h.1, h.2.1, h.2.2.1, h.2.2.2.1, h.2.2.2.2⟩)
theorem opens_S_byte : Opens Tryz.prog 22 (Kd.slice 5 (Kd.int .u8)) (fun xs => (xs.length ≤ 9223372036854775807 ∧ ∀ y ∈ xs, (Lit.int .u8 y).wf = true)) := fun enc w base spare held fuel cs x h => opens_slice (e := 5) Tryz.underlying22 (by kernel_rfl) (opens_int Tryz.underlying5) enc w base spare held fuel cs x h
end Go.Proofs.YtoppgnmnbbhghaaGreatDoor
