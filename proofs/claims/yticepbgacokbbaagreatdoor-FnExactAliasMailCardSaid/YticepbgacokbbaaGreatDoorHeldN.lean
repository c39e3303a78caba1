/- The laws' looks at marked structs: contracts. -/
import Derived.Test.YticepbgacokbbaaGreatDoorMarkN
import Derived.Test.YticepbgacokbbaaGreatDoorHeld
import Derived.Deep.RegionHeld3
namespace Go.Proofs.YticepbgacokbbaaGreatDoor
open Go.RowKit Go.Proofs.YticepbgacokbbaaGreatDoorW.PrintWords
set_option linter.unusedVariables false
set_option linter.unusedSimpArgs false

set_option maxRecDepth 100000 in
set_option maxHeartbeats 4000000 in
theorem heldMail_any (x : SMail) (A0 : Option Addr) (c0 : Nat) (A1 : Option Addr) (c1 : Nat) (a : Nat) (w : World) (hl0 : x.f1.length ≤ 1048576) (hl1 : x.f2.length ≤ 1048576) (hr0 : Kd.C kAddr w A0 x.f1.length (mksAddr (a) x.f1.length)) (hr1 : Kd.C Kd.string w A1 x.f2.length (mksString (a + 2 * x.f1.length) x.f2.length)) (ha : a ≤ 140737488355328) :
  Calls Tryz.prog 20 #[.agg #[.string x.f0.f0, .string x.f0.f1, .slice A0 x.f1.length c0, .slice A1 x.f2.length c1], .int .i64 (a : Int)] w fun e w' => e = .returned (.int .i64 ((a + 2 * x.f1.length + 1 * x.f2.length : Nat) : Int)) ∧ Below w.heap.size w w' := by
 have hc_0 := fun (W : World) (hW : Below w.heap.size w W) => heldAddrS_any A0 c0 x.f1.length (a) W (Kd.C_below hr0 hW) hl0 (by omega)
 have hc_1 := fun (W : World) (hW : Below w.heap.size w W) => heldStringS_any A1 c1 x.f2.length (a + 2 * x.f1.length) W (Kd.C_below hr1 hW) hl1 (by omega)
 clear hr0 hr1
 have L0 := Below.refl w.heap.size w
 go_enter Tryz.func20, Tryz.ntmps20
 go_wp2_with fail
 refine (calls_at (a := a) (by omega) (hc_0 _ (by (with_reducible repeat (first | exact L0 | refine bel_alloc ?_ _ | refine bel_set ?_ _ ?_ | refine blw_drewN ?_ _ | refine Below.drew ?_)); all_goals (first | (simp; done) | (simp; omega) | omega)))).mono ?_
 rintro e w0 ⟨rfl, b0⟩
 have L1 : Below w.heap.size w w0 := bel_then (by (with_reducible repeat (first | exact L0 | refine bel_alloc ?_ _ | refine bel_set ?_ _ ?_ | refine blw_drewN ?_ _ | refine Below.drew ?_)); all_goals (first | (simp; done) | (simp; omega) | omega)) b0
 obtain ⟨q0, p0⟩ := bcell b0
 have z0 : w.heap.size < w0.heap.size := by have := b0.size; (try simp at this); omega
 clear b0 hc_0
 go_wp2_with fail
 refine (calls_at (a := a + 2 * x.f1.length) (by omega) (hc_1 _ (by (with_reducible repeat (first | exact L1 | refine bel_alloc ?_ _ | refine bel_set ?_ _ ?_ | refine blw_drewN ?_ _ | refine Below.drew ?_)); all_goals (first | (simp; done) | (simp; omega) | omega)))).mono ?_
 rintro e w1 ⟨rfl, b1⟩
 have L2 : Below w.heap.size w w1 := bel_then (by (with_reducible repeat (first | exact L1 | refine bel_alloc ?_ _ | refine bel_set ?_ _ ?_ | refine blw_drewN ?_ _ | refine Below.drew ?_)); all_goals (first | (simp; done) | (simp; omega) | omega)) b1
 obtain ⟨q1, p1⟩ := bcell b1
 have z1 : w.heap.size < w1.heap.size := by have := b1.size; (try simp at this); omega
 clear b1 hc_1
 go_wp2
 go_ret
 exact ⟨reti (by omega), L2⟩
end Go.Proofs.YticepbgacokbbaaGreatDoor
