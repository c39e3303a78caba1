/- The laws' comparisons, of the same twice: contracts. -/
import Derived.Test.YtoppgnmnbbhghaaGreatDoorKit0
import Derived.StillTailTactics
namespace Go.Proofs.YtoppgnmnbbhghaaGreatDoor
open Go.RowKit Go.Proofs.YtoppgnmnbbhghaaGreatDoorW.PrintWords
set_option linter.unusedVariables false
set_option linter.unusedSimpArgs false

theorem drew_below (w : World) : Below w.heap.size w w.drew := ⟨rfl, rfl, rfl, Nat.le_refl _, fun _ _ => rfl⟩
set_option maxRecDepth 100000 in
set_option maxHeartbeats 1000000 in
theorem eqAddr_any (x : SAddr)   (w : World) (hw : fitAddr x)   :
    Calls Tryz.prog 121 #[.agg #[.string x.f0, .string x.f1], .agg #[.string x.f0, .string x.f1]] w fun e w' => e = .returned (.bool true) ∧ Below w.heap.size w w' := by
  unfold fitAddr at hw
  obtain ⟨hw_0, hw_1⟩ := hw
  clear hw_0 hw_1
  have B0 := Below.refl w.heap.size w
  go_enter Tryz.func121, Tryz.ntmps121
  go_wp2
  go_ret
  exact ⟨rfl, by (with_reducible repeat (first | exact B0 | refine bel_alloc ?_ _ | refine bel_set ?_ _ ?_)); all_goals (first | (simp; done) | (simp; omega) | omega)⟩
set_option maxRecDepth 100000 in
set_option maxHeartbeats 1000000 in
theorem eqStringS_any (A : Option Addr) (c : Nat) (B : Option Addr) (d : Nat) (xs : List ByteArray) (w : World) (hw : (xs.length ≤ 1048576 ∧ ∀ y ∈ xs, y.size ≤ 1048576)) (hr : Kd.C Kd.string w A xs.length xs) (gr : Kd.C Kd.string w B xs.length xs) :
    Calls Tryz.prog 123 #[.slice A xs.length c, .slice B xs.length d] w fun e w' => e = .returned (.bool true) ∧ Below w.heap.size w w' := by
  obtain ⟨hwl, hwx⟩ := hw
  have HX := Lib.hid hwx
  clear hwx
  go_enter Tryz.func123, Tryz.ntmps123
  go_wp2
  go_loopg [5] (xs.length) (fun g v wr => ∃ k : Nat, k ≤ xs.length ∧ xs.length - k ≤ g ∧ v = .int .i64 k ∧ Aside0 (Below w.heap.size w wr))
  case atStart => exact ⟨0, Nat.zero_le _, by omega, rfl, ⟨Below.refl _ _⟩⟩
  case round =>
    obtain ⟨k, hk, hg, rfl, BW⟩ := hrel
    by_cases hlt : k < xs.length
    · obtain ⟨ad, e1, p0⟩ := at_Str (Kd.C_below hr BW.out) k hlt
      obtain ⟨ae, e2, r0⟩ := at_Str (Kd.C_below gr BW.out) k hlt
      subst e1
      subst e2
      have hx := HX.out (xs.getD k (⟨#[]⟩ : ByteArray)) (getD_mem xs (⟨#[]⟩ : ByteArray) hlt)
      generalize xs.getD k (⟨#[]⟩ : ByteArray) = y at hx p0 r0
      have hyy : (y.toList == y.toList) = true := beq_self_eq_true _
      clear hx
      go_wp2
      repeat (go_quiet (fail); try go_wp2)
      go_roundg (xs.length - (k + 1))
      case measure => omega
      case rel => exact ⟨k + 1, by omega, Nat.le_refl _, rfl, ⟨by first | exact BW.out | exact ⟨BW.out.os, BW.out.tape, BW.out.output, BW.out.size, BW.out.block⟩⟩⟩
    · go_wp2
      go_ret
      exact ⟨rfl, BW.out⟩
set_option maxRecDepth 100000 in
set_option maxHeartbeats 1000000 in
theorem eqIntS_any (A : Option Addr) (c : Nat) (B : Option Addr) (d : Nat) (xs : List Int) (w : World) (hw : (xs.length ≤ 1048576 ∧ ∀ y ∈ xs, (Lit.int .i64 y).wf = true)) (hr : Kd.C (Kd.int .i64) w A xs.length xs) (gr : Kd.C (Kd.int .i64) w B xs.length xs) :
    Calls Tryz.prog 70 #[.slice A xs.length c, .slice B xs.length d] w fun e w' => e = .returned (.bool true) ∧ Below w.heap.size w w' := by
  obtain ⟨hwl, hwx⟩ := hw
  have HX := Lib.hid hwx
  clear hwx
  go_enter Tryz.func70, Tryz.ntmps70
  go_wp2
  go_loopg [5] (xs.length) (fun g v wr => ∃ k : Nat, k ≤ xs.length ∧ xs.length - k ≤ g ∧ v = .int .i64 k ∧ Aside0 (Below w.heap.size w wr))
  case atStart => exact ⟨0, Nat.zero_le _, by omega, rfl, ⟨Below.refl _ _⟩⟩
  case round =>
    obtain ⟨k, hk, hg, rfl, BW⟩ := hrel
    by_cases hlt : k < xs.length
    · obtain ⟨ad, e1, p0⟩ := at_Int (Kd.C_below hr BW.out) k hlt
      obtain ⟨ae, e2, r0⟩ := at_Int (Kd.C_below gr BW.out) k hlt
      subst e1
      subst e2
      have hx := HX.out (xs.getD k (0 : Int)) (getD_mem xs (0 : Int) hlt)
      generalize xs.getD k (0 : Int) = y at hx p0 r0
      have hyy : (y == y) = true := beq_self_eq_true _
      clear hx
      go_wp2
      repeat (go_quiet (fail); try go_wp2)
      go_roundg (xs.length - (k + 1))
      case measure => omega
      case rel => exact ⟨k + 1, by omega, Nat.le_refl _, rfl, ⟨by first | exact BW.out | exact ⟨BW.out.os, BW.out.tape, BW.out.output, BW.out.size, BW.out.block⟩⟩⟩
    · go_wp2
      go_ret
      exact ⟨rfl, BW.out⟩
set_option maxRecDepth 100000 in
set_option maxHeartbeats 1000000 in
theorem eqAddrS_any (A : Option Addr) (c : Nat) (B : Option Addr) (d : Nat) (xs : List SAddr) (w : World) (hw : (xs.length ≤ 1048576 ∧ ∀ y ∈ xs, fitAddr y)) (hr : Kd.C kAddr w A xs.length xs) (gr : Kd.C kAddr w B xs.length xs) :
    Calls Tryz.prog 122 #[.slice A xs.length c, .slice B xs.length d] w fun e w' => e = .returned (.bool true) ∧ Below w.heap.size w w' := by
  obtain ⟨hwl, hwx⟩ := hw
  have HX := Lib.hid hwx
  clear hwx
  go_enter Tryz.func122, Tryz.ntmps122
  go_wp2
  go_loopg [5] (xs.length) (fun g v wr => ∃ k : Nat, k ≤ xs.length ∧ xs.length - k ≤ g ∧ v = .int .i64 k ∧ Aside0 (Below w.heap.size w wr))
  case atStart => exact ⟨0, Nat.zero_le _, by omega, rfl, ⟨Below.refl _ _⟩⟩
  case round =>
    obtain ⟨k, hk, hg, rfl, BW⟩ := hrel
    by_cases hlt : k < xs.length
    · obtain ⟨ad, e1, p0, p1⟩ := at_Addr (Kd.C_below hr BW.out) k hlt
      obtain ⟨ae, e2, r0, r1⟩ := at_Addr (Kd.C_below gr BW.out) k hlt
      subst e1
      subst e2
      have hx := HX.out (xs.getD k zAddr) (getD_mem xs zAddr hlt)
      generalize xs.getD k zAddr = y at hx p0 r0 p1 r1
      have hcall := eqAddr_any y   wr.drew hx  
      have BD : Aside0 (Below w.heap.size w wr.drew) := ⟨bel_then BW.out (drew_below wr)⟩
      clear hx 
      go_wp2
      go_still_tail 8, (by kernel_rfl)
      change wpList _ _ _ _ _ wr.drew
      generalize wr.drew = wd at BD hcall
      clear BW
      go_wp2_with (go_at_call 121; refine hcall.mono ?_; rintro e w1 ⟨rfl, hb1⟩)
      go_roundg (xs.length - (k + 1))
      case measure => omega
      case rel => exact ⟨k + 1, by omega, Nat.le_refl _, rfl, ⟨bel_then BD.out hb1⟩⟩
    · go_wp2
      go_ret
      exact ⟨rfl, BW.out⟩
set_option maxRecDepth 100000 in
set_option maxHeartbeats 1000000 in
theorem eqMail_any (x : SMail) (A0 : Option Addr) (c0 : Nat) (A1 : Option Addr) (c1 : Nat) (B0 : Option Addr) (d0 : Nat) (B1 : Option Addr) (d1 : Nat) (w : World) (hw : fitMail x) (hr0 : Kd.C kAddr w A0 x.f1.length x.f1) (hr1 : Kd.C Kd.string w A1 x.f2.length x.f2) (gr0 : Kd.C kAddr w B0 x.f1.length x.f1) (gr1 : Kd.C Kd.string w B1 x.f2.length x.f2) :
    Calls Tryz.prog 69 #[.agg #[.string x.f0.f0, .string x.f0.f1, .slice A0 x.f1.length c0, .slice A1 x.f2.length c1], .agg #[.string x.f0.f0, .string x.f0.f1, .slice B0 x.f1.length d0, .slice B1 x.f2.length d1]] w fun e w' => e = .returned (.bool true) ∧ Below w.heap.size w w' := by
  unfold fitMail at hw
  obtain ⟨hw_0, hw_1, hw_2⟩ := hw
  have hc_0 := fun (W : World) (hW : Below w.heap.size w W) => eqAddr_any x.f0   W hw_0  
  have hc_1 := fun (W : World) (hW : Below w.heap.size w W) => eqAddrS_any A0 c0 B0 d0 x.f1 W hw_1 (Kd.C_below hr0 hW) (Kd.C_below gr0 hW)
  have hc_2 := fun (W : World) (hW : Below w.heap.size w W) => eqStringS_any A1 c1 B1 d1 x.f2 W hw_2 (Kd.C_below hr1 hW) (Kd.C_below gr1 hW)
  clear hw_0 hw_1 hw_2 hr0 gr0 hr1 gr1
  have B0 := Below.refl w.heap.size w
  go_enter Tryz.func69, Tryz.ntmps69
  go_wp2_with fail
  refine (hc_0 _ (by (with_reducible repeat (first | exact B0 | refine bel_alloc ?_ _ | refine bel_set ?_ _ ?_)); all_goals (first | (simp; done) | (simp; omega) | omega))).mono ?_
  rintro e w0 ⟨rfl, b0⟩
  have B1 : Below w.heap.size w w0 := bel_then (by (with_reducible repeat (first | exact B0 | refine bel_alloc ?_ _ | refine bel_set ?_ _ ?_)); all_goals (first | (simp; done) | (simp; omega) | omega)) b0
  obtain ⟨q0, p0⟩ := bcell b0
  have z0 : w.heap.size + 1 < w0.heap.size := by have := b0.size; (try simp at this); omega
  have x0 : w.heap.size < w0.heap.size := by omega
  clear b0 hc_0
  go_wp2_with fail
  refine (hc_1 _ (by (with_reducible repeat (first | exact B1 | refine bel_alloc ?_ _ | refine bel_set ?_ _ ?_)); all_goals (first | (simp; done) | (simp; omega) | omega))).mono ?_
  rintro e w1 ⟨rfl, b1⟩
  have B2 : Below w.heap.size w w1 := bel_then (by (with_reducible repeat (first | exact B1 | refine bel_alloc ?_ _ | refine bel_set ?_ _ ?_)); all_goals (first | (simp; done) | (simp; omega) | omega)) b1
  obtain ⟨q1, p1⟩ := bcell b1
  have z1 : w.heap.size + 1 < w1.heap.size := by have := b1.size; (try simp at this); omega
  have x1 : w.heap.size < w1.heap.size := by omega
  clear b1 hc_1
  go_wp2_with fail
  refine (hc_2 _ (by (with_reducible repeat (first | exact B2 | refine bel_alloc ?_ _ | refine bel_set ?_ _ ?_)); all_goals (first | (simp; done) | (simp; omega) | omega))).mono ?_
  rintro e w2 ⟨rfl, b2⟩
  have B3 : Below w.heap.size w w2 := bel_then (by (with_reducible repeat (first | exact B2 | refine bel_alloc ?_ _ | refine bel_set ?_ _ ?_)); all_goals (first | (simp; done) | (simp; omega) | omega)) b2
  obtain ⟨q2, p2⟩ := bcell b2
  have z2 : w.heap.size + 1 < w2.heap.size := by have := b2.size; (try simp at this); omega
  have x2 : w.heap.size < w2.heap.size := by omega
  clear b2 hc_2
  go_wp2
  go_ret
  exact ⟨rfl, by (with_reducible repeat (first | exact B3 | refine bel_alloc ?_ _ | refine bel_set ?_ _ ?_)); all_goals (first | (simp; done) | (simp; omega) | omega)⟩
set_option maxRecDepth 100000 in
set_option maxHeartbeats 1000000 in
theorem eqCli_any (x : SCli) (A0 : Option Addr) (c0 : Nat) (A1 : Option Addr) (c1 : Nat) (A2 : Option Addr) (c2 : Nat) (B0 : Option Addr) (d0 : Nat) (B1 : Option Addr) (d1 : Nat) (B2 : Option Addr) (d2 : Nat) (w : World) (hw : fitCli x) (hr0 : Kd.C kAddr w A0 x.f1.f1.length x.f1.f1) (hr1 : Kd.C Kd.string w A1 x.f1.f2.length x.f1.f2) (hr2 : Kd.C (Kd.int .i64) w A2 x.f4.length x.f4) (gr0 : Kd.C kAddr w B0 x.f1.f1.length x.f1.f1) (gr1 : Kd.C Kd.string w B1 x.f1.f2.length x.f1.f2) (gr2 : Kd.C (Kd.int .i64) w B2 x.f4.length x.f4) :
    Calls Tryz.prog 28 #[.agg #[.string x.f0, .string x.f1.f0.f0, .string x.f1.f0.f1, .slice A0 x.f1.f1.length c0, .slice A1 x.f1.f2.length c1, .int .i64 x.f2, .int .i64 x.f3, .slice A2 x.f4.length c2], .agg #[.string x.f0, .string x.f1.f0.f0, .string x.f1.f0.f1, .slice B0 x.f1.f1.length d0, .slice B1 x.f1.f2.length d1, .int .i64 x.f2, .int .i64 x.f3, .slice B2 x.f4.length d2]] w fun e w' => e = .returned (.bool true) ∧ Below w.heap.size w w' := by
  unfold fitCli at hw
  obtain ⟨hw_0, hw_1, hw_2, hw_3, hw_4⟩ := hw
  have hc_1 := fun (W : World) (hW : Below w.heap.size w W) => eqMail_any x.f1 A0 c0 A1 c1 B0 d0 B1 d1 W hw_1 (Kd.C_below hr0 hW) (Kd.C_below hr1 hW) (Kd.C_below gr0 hW) (Kd.C_below gr1 hW)
  have hc_4 := fun (W : World) (hW : Below w.heap.size w W) => eqIntS_any A2 c2 B2 d2 x.f4 W hw_4 (Kd.C_below hr2 hW) (Kd.C_below gr2 hW)
  clear hw_0 hw_1 hw_2 hw_3 hw_4 hr0 gr0 hr1 gr1 hr2 gr2
  have B0 := Below.refl w.heap.size w
  go_enter Tryz.func28, Tryz.ntmps28
  go_wp2_with fail
  refine (hc_1 _ (by (with_reducible repeat (first | exact B0 | refine bel_alloc ?_ _ | refine bel_set ?_ _ ?_)); all_goals (first | (simp; done) | (simp; omega) | omega))).mono ?_
  rintro e w1 ⟨rfl, b1⟩
  have B2 : Below w.heap.size w w1 := bel_then (by (with_reducible repeat (first | exact B0 | refine bel_alloc ?_ _ | refine bel_set ?_ _ ?_)); all_goals (first | (simp; done) | (simp; omega) | omega)) b1
  obtain ⟨q1, p1⟩ := bcell b1
  have z1 : w.heap.size + 1 < w1.heap.size := by have := b1.size; (try simp at this); omega
  have x1 : w.heap.size < w1.heap.size := by omega
  clear b1 hc_1
  go_wp2_with fail
  refine (hc_4 _ (by (with_reducible repeat (first | exact B2 | refine bel_alloc ?_ _ | refine bel_set ?_ _ ?_)); all_goals (first | (simp; done) | (simp; omega) | omega))).mono ?_
  rintro e w4 ⟨rfl, b4⟩
  have B5 : Below w.heap.size w w4 := bel_then (by (with_reducible repeat (first | exact B2 | refine bel_alloc ?_ _ | refine bel_set ?_ _ ?_)); all_goals (first | (simp; done) | (simp; omega) | omega)) b4
  obtain ⟨q4, p4⟩ := bcell b4
  have z4 : w.heap.size + 1 < w4.heap.size := by have := b4.size; (try simp at this); omega
  have x4 : w.heap.size < w4.heap.size := by omega
  clear b4 hc_4
  go_wp2
  go_ret
  exact ⟨rfl, by (with_reducible repeat (first | exact B5 | refine bel_alloc ?_ _ | refine bel_set ?_ _ ?_)); all_goals (first | (simp; done) | (simp; omega) | omega)⟩
end Go.Proofs.YtoppgnmnbbhghaaGreatDoor
