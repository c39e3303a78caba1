/- The laws' comparison of rules, of the same twice: a contract. -/
import Derived.Test.YtmfehmbgghfffaaDoorSaB
namespace Go.Proofs.YtmfehmbgghfffaaDoor
open Go.RowKit Go.Proofs.YtmfehmbgghfffaaDoorW.PrintWords
set_option linter.unusedVariables false
set_option linter.unusedSimpArgs false
theorem eqA65 (d : Nat) (w : World) (x0 y0 : Int) (x1 y1 : ByteArray) (x2 y2 : Int) (x3 y3 : ByteArray) (x4 y4 : ByteArray) :
    (Op.equalIn (d + 3) 65 (.agg #[.int .i64 x0, .string x1, .int .i64 x2, .string x3, .string x4]) (.agg #[.int .i64 y0, .string y1, .int .i64 y2, .string y3, .string y4])).run Tryd.prog w = .ok ((x0 == y0) && ((x1.toList == y1.toList) && ((x2 == y2) && ((x3.toList == y3.toList) && (x4.toList == y4.toList))))) w := by
  refine eqA_of Tryd.underlying65 (by kernel_rfl) ?_
  refine eqf_cons (by rfl) (by go_simp; try rfl) (by go_simp; try rfl) (by go_simp) ?_
  refine eqf_cons (by rfl) (by go_simp; try rfl) (by go_simp; try rfl) (by go_simp) ?_
  refine eqf_cons (by rfl) (by go_simp; try rfl) (by go_simp; try rfl) (by go_simp) ?_
  exact eqf_last (by rfl) (by go_simp; try rfl) (by go_simp; try rfl) (eqA33 _ _ _ _ _ _)
attribute [local go_sem high] eqA65
set_option maxRecDepth 100000 in
set_option maxHeartbeats 1000000 in
theorem saRules_any (A : Option Addr) (c : Nat) (B : Option Addr) (d : Nat) (xs : List SRule) (w : World) (hwl : xs.length ≤ 1048576) (hr : Kd.C kRule w A xs.length xs) (gr : Kd.C kRule w B xs.length xs) :
    Calls Tryd.prog 17 #[.slice A xs.length c, .slice B xs.length d] w fun e w' => e = .returned (.bool true) ∧ Below w.heap.size w w' := by
  go_enter Tryd.func17, Tryd.ntmps17
  go_wp2
  go_loopg [5] (xs.length) (fun g v wr => ∃ k : Nat, k ≤ xs.length ∧ xs.length - k ≤ g ∧ v = .int .i64 k ∧ Aside0 (Below w.heap.size w wr))
  case atStart => exact ⟨0, Nat.zero_le _, by omega, rfl, ⟨Below.refl _ _⟩⟩
  case round =>
    obtain ⟨k, hk, hg, rfl, BW⟩ := hrel
    by_cases hlt : k < xs.length
    · have hlt' : (k : Int) < (xs.length : Int) := by omega
      obtain ⟨ad, e1, p0, p1, p2, p3, p4⟩ := at_Rule (Kd.C_below hr BW.out) k hlt
      obtain ⟨ae, e2, r0, r1, r2, r3, r4⟩ := at_Rule (Kd.C_below gr BW.out) k hlt
      subst e1
      subst e2
      clear hr gr
      generalize xs.getD k zRule = y at p0 r0 p1 r1 p2 r2 p3 r3 p4 r4
      have he0 : (y.f0 == y.f0) = true := beq_self_eq_true _
      have he1 : (y.f1.toList == y.f1.toList) = true := beq_self_eq_true _
      have he2 : (y.f2 == y.f2) = true := beq_self_eq_true _
      have he3 : (y.f3.f0.toList == y.f3.f0.toList) = true := beq_self_eq_true _
      have he4 : (y.f3.f1.toList == y.f3.f1.toList) = true := beq_self_eq_true _
      go_wp2
      go_quiet (fail)
      go_wp2
      go_roundg (xs.length - (k + 1))
      case measure => omega
      case rel => exact ⟨k + 1, by omega, Nat.le_refl _, by go_num, ⟨blw_drewN BW.out _⟩⟩
    · have hlt' : ¬ (k : Int) < (xs.length : Int) := by omega
      go_wp2
      go_ret
      exact ⟨rfl, BW.out⟩
end Go.Proofs.YtmfehmbgghfffaaDoor
