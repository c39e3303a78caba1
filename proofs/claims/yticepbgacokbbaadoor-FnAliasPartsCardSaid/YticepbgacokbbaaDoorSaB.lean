/- The laws' own comparisons, of the same twice: contracts. -/
import Derived.Test.YticepbgacokbbaaDoorKit0
import Derived.Deep.QuietTactic
import Derived.BigQuiet
import Derived.StillTailTactics
namespace Go.Proofs.YticepbgacokbbaaDoor
open Go.RowKit Go.Proofs.YticepbgacokbbaaDoorW.PrintWords
set_option linter.unusedVariables false
set_option linter.unusedSimpArgs false

attribute [local go_sem high] eqA30
set_option maxRecDepth 100000 in
set_option maxHeartbeats 1000000 in
theorem saAddrs_any (A : Option Addr) (c : Nat) (B : Option Addr) (d : Nat) (xs : List SAddr) (w : World) (hwl : xs.length ≤ 1048576) (hr : Kd.C kAddr w A xs.length xs) (gr : Kd.C kAddr w B xs.length xs) :
  Calls Tryd.prog 12 #[.slice A xs.length c, .slice B xs.length d] w fun e w' => e = .returned (.bool true) ∧ Below w.heap.size w w' := by
 go_enter Tryd.func12, Tryd.ntmps12
 go_wp2
 go_loopg [5] (xs.length) (fun g v wr => ∃ k : Nat, k ≤ xs.length ∧ xs.length - k ≤ g ∧ v = .int .i64 k ∧ Aside0 (Below w.heap.size w wr))
 case atStart => exact ⟨0, Nat.zero_le _, by omega, rfl, ⟨Below.refl _ _⟩⟩
 case round =>
  obtain ⟨k, hk, hg, rfl, BW⟩ := hrel
  by_cases hlt : k < xs.length
  ·have hlt' : (k : Int) < (xs.length : Int) := by omega
   obtain ⟨ad, e1, p0, p1⟩ := at_Addr (Kd.C_below hr BW.out) k hlt
   obtain ⟨ae, e2, r0, r1⟩ := at_Addr (Kd.C_below gr BW.out) k hlt
   subst e1
   subst e2
   clear hr gr
   generalize xs.getD k zAddr = y at p0 r0 p1 r1
   have he0 : (y.f0.toList == y.f0.toList) = true := beq_self_eq_true _
   have he1 : (y.f1.toList == y.f1.toList) = true := beq_self_eq_true _
   go_wp2
   go_quiet (fail)
   go_wp2
   go_roundg (xs.length - (k + 1))
   case measure => omega
   case rel => exact ⟨k + 1, by omega, Nat.le_refl _, by go_num, ⟨blw_drewN BW.out _⟩⟩
  ·have hlt' : ¬ (k : Int) < (xs.length : Int) := by omega
   go_wp2
   go_ret
   exact ⟨rfl, BW.out⟩
end Go.Proofs.YticepbgacokbbaaDoor
