/- The laws' comparisons, of the same twice: contracts. -/
import Derived.Test.YtejiifmopopflaaGreatDoorKit0
import Derived.StillTailTactics
namespace Go.Proofs.YtejiifmopopflaaGreatDoor
open Go.RowKit Go.Proofs.YtejiifmopopflaaGreatDoorW.PrintWords
set_option linter.unusedVariables false
set_option linter.unusedSimpArgs false

theorem drew_below (w : World) : Below w.heap.size w w.drew := ⟨rfl, rfl, rfl, Nat.le_refl _, fun _ _ => rfl⟩
set_option maxRecDepth 100000 in
set_option maxHeartbeats 1000000 in
theorem eqAddr_any (x : SAddr)   (w : World) (hw : fitAddr x)   :
    Calls Tryz.prog 104 #[.agg #[.string x.f0, .string x.f1], .agg #[.string x.f0, .string x.f1]] w fun e w' => e = .returned (.bool true) ∧ Below w.heap.size w w' := by
  unfold fitAddr at hw
  obtain ⟨hw_0, hw_1⟩ := hw
  clear hw_0 hw_1
  have B0 := Below.refl w.heap.size w
  go_enter Tryz.func104, Tryz.ntmps104
  go_wp2
  go_ret
  exact ⟨rfl, by (with_reducible repeat (first | exact B0 | refine bel_alloc ?_ _ | refine bel_set ?_ _ ?_)); all_goals (first | (simp; done) | (simp; omega) | omega)⟩
set_option maxRecDepth 100000 in
set_option maxHeartbeats 1000000 in
theorem eqStringS_any (A : Option Addr) (c : Nat) (B : Option Addr) (d : Nat) (xs : List ByteArray) (w : World) (hw : (xs.length ≤ 1048576 ∧ ∀ y ∈ xs, y.size ≤ 1048576)) (hr : Kd.C Kd.string w A xs.length xs) (gr : Kd.C Kd.string w B xs.length xs) :
    Calls Tryz.prog 72 #[.slice A xs.length c, .slice B xs.length d] w fun e w' => e = .returned (.bool true) ∧ Below w.heap.size w w' := by
  obtain ⟨hwl, hwx⟩ := hw
  have HX := Lib.hid hwx
  clear hwx
  go_enter Tryz.func72, Tryz.ntmps72
  go_wp2
  go_loopg [5] (xs.length) (fun g v wr => ∃ k : Nat, k ≤ xs.length ∧ xs.length - k ≤ g ∧ v = .int .i64 k ∧ Aside0 (Below w.heap.size w wr))
  case atStart => exact ⟨0, Nat.zero_le _, by omega, rfl, ⟨Below.refl _ _⟩⟩
  case round =>
    obtain ⟨k, hk, hg, rfl, BW⟩ := hrel
    by_cases hlt : k < xs.length
    · obtain ⟨ad, e1, p0⟩ := at_Str (Kd.C_below hr BW.out) k hlt
      obtain ⟨ae, e2, r0⟩ := at_Str (Kd.C_below gr BW.out) k hlt
      subst e1
      subst e2
      have hx := HX.out (xs.getD k (⟨#[]⟩ : ByteArray)) (getD_mem xs (⟨#[]⟩ : ByteArray) hlt)
      generalize xs.getD k (⟨#[]⟩ : ByteArray) = y at hx p0 r0
      have hyy : (y.toList == y.toList) = true := beq_self_eq_true _
      clear hx
      go_wp2
      repeat (go_quiet (fail); try go_wp2)
      go_roundg (xs.length - (k + 1))
      case measure => omega
      case rel => exact ⟨k + 1, by omega, Nat.le_refl _, rfl, ⟨by first | exact BW.out | exact ⟨BW.out.os, BW.out.tape, BW.out.output, BW.out.size, BW.out.block⟩⟩⟩
    · go_wp2
      go_ret
      exact ⟨rfl, BW.out⟩
set_option maxRecDepth 100000 in
set_option maxHeartbeats 1000000 in
theorem eqIntS_any (A : Option Addr) (c : Nat) (B : Option Addr) (d : Nat) (xs : List Int) (w : World) (hw : (xs.length ≤ 1048576 ∧ ∀ y ∈ xs, (Lit.int .i64 y).wf = true)) (hr : Kd.C (Kd.int .i64) w A xs.length xs) (gr : Kd.C (Kd.int .i64) w B xs.length xs) :
    Calls Tryz.prog 43 #[.slice A xs.length c, .slice B xs.length d] w fun e w' => e = .returned (.bool true) ∧ Below w.heap.size w w' := by
  obtain ⟨hwl, hwx⟩ := hw
  have HX := Lib.hid hwx
  clear hwx
  go_enter Tryz.func43, Tryz.ntmps43
  go_wp2
  go_loopg [5] (xs.length) (fun g v wr => ∃ k : Nat, k ≤ xs.length ∧ xs.length - k ≤ g ∧ v = .int .i64 k ∧ Aside0 (Below w.heap.size w wr))
  case atStart => exact ⟨0, Nat.zero_le _, by omega, rfl, ⟨Below.refl _ _⟩⟩
  case round =>
    obtain ⟨k, hk, hg, rfl, BW⟩ := hrel
    by_cases hlt : k < xs.length
    · obtain ⟨ad, e1, p0⟩ := at_Int (Kd.C_below hr BW.out) k hlt
      obtain ⟨ae, e2, r0⟩ := at_Int (Kd.C_below gr BW.out) k hlt
      subst e1
      subst e2
      have hx := HX.out (xs.getD k (0 : Int)) (getD_mem xs (0 : Int) hlt)
      generalize xs.getD k (0 : Int) = y at hx p0 r0
      have hyy : (y == y) = true := beq_self_eq_true _
      clear hx
      go_wp2
      repeat (go_quiet (fail); try go_wp2)
      go_roundg (xs.length - (k + 1))
      case measure => omega
      case rel => exact ⟨k + 1, by omega, Nat.le_refl _, rfl, ⟨by first | exact BW.out | exact ⟨BW.out.os, BW.out.tape, BW.out.output, BW.out.size, BW.out.block⟩⟩⟩
    · go_wp2
      go_ret
      exact ⟨rfl, BW.out⟩
set_option maxRecDepth 100000 in
set_option maxHeartbeats 1000000 in
theorem eqAddrS_any (A : Option Addr) (c : Nat) (B : Option Addr) (d : Nat) (xs : List SAddr) (w : World) (hw : (xs.length ≤ 1048576 ∧ ∀ y ∈ xs, fitAddr y)) (hr : Kd.C kAddr w A xs.length xs) (gr : Kd.C kAddr w B xs.length xs) :
    Calls Tryz.prog 105 #[.slice A xs.length c, .slice B xs.length d] w fun e w' => e = .returned (.bool true) ∧ Below w.heap.size w w' := by
  obtain ⟨hwl, hwx⟩ := hw
  have HX := Lib.hid hwx
  clear hwx
  go_enter Tryz.func105, Tryz.ntmps105
  go_wp2
  go_loopg [5] (xs.length) (fun g v wr => ∃ k : Nat, k ≤ xs.length ∧ xs.length - k ≤ g ∧ v = .int .i64 k ∧ Aside0 (Below w.heap.size w wr))
  case atStart => exact ⟨0, Nat.zero_le _, by omega, rfl, ⟨Below.refl _ _⟩⟩
  case round =>
    obtain ⟨k, hk, hg, rfl, BW⟩ := hrel
    by_cases hlt : k < xs.length
    · obtain ⟨ad, e1, p0, p1⟩ := at_Addr (Kd.C_below hr BW.out) k hlt
      obtain ⟨ae, e2, r0, r1⟩ := at_Addr (Kd.C_below gr BW.out) k hlt
      subst e1
      subst e2
      have hx := HX.out (xs.getD k zAddr) (getD_mem xs zAddr hlt)
      generalize xs.getD k zAddr = y at hx p0 r0 p1 r1
      have hcall := eqAddr_any y   wr.drew hx  
      have BD : Aside0 (Below w.heap.size w wr.drew) := ⟨bel_then BW.out (drew_below wr)⟩
      clear hx 
      go_wp2
      go_still_tail 8, (by kernel_rfl)
      change wpList _ _ _ _ _ wr.drew
      generalize wr.drew = wd at BD hcall
      clear BW
      go_wp2_with (go_at_call 104; refine hcall.mono ?_; rintro e w1 ⟨rfl, hb1⟩)
      go_roundg (xs.length - (k + 1))
      case measure => omega
      case rel => exact ⟨k + 1, by omega, Nat.le_refl _, rfl, ⟨bel_then BD.out hb1⟩⟩
    · go_wp2
      go_ret
      exact ⟨rfl, BW.out⟩
set_option maxRecDepth 100000 in
set_option maxHeartbeats 1000000 in
theorem eqWay_any (x : SWay)   (w : World) (hw : fitWay x)   :
    Calls Tryz.prog 138 #[.agg #[.string x.f0, .string x.f1], .agg #[.string x.f0, .string x.f1]] w fun e w' => e = .returned (.bool true) ∧ Below w.heap.size w w' := by
  unfold fitWay at hw
  obtain ⟨hw_0, hw_1⟩ := hw
  clear hw_0 hw_1
  have B0 := Below.refl w.heap.size w
  go_enter Tryz.func138, Tryz.ntmps138
  go_wp2
  go_ret
  exact ⟨rfl, by (with_reducible repeat (first | exact B0 | refine bel_alloc ?_ _ | refine bel_set ?_ _ ?_)); all_goals (first | (simp; done) | (simp; omega) | omega)⟩
set_option maxRecDepth 100000 in
set_option maxHeartbeats 1000000 in
theorem eqWayS_any (A : Option Addr) (c : Nat) (B : Option Addr) (d : Nat) (xs : List SWay) (w : World) (hw : (xs.length ≤ 1048576 ∧ ∀ y ∈ xs, fitWay y)) (hr : Kd.C kWay w A xs.length xs) (gr : Kd.C kWay w B xs.length xs) :
    Calls Tryz.prog 73 #[.slice A xs.length c, .slice B xs.length d] w fun e w' => e = .returned (.bool true) ∧ Below w.heap.size w w' := by
  obtain ⟨hwl, hwx⟩ := hw
  have HX := Lib.hid hwx
  clear hwx
  go_enter Tryz.func73, Tryz.ntmps73
  go_wp2
  go_loopg [5] (xs.length) (fun g v wr => ∃ k : Nat, k ≤ xs.length ∧ xs.length - k ≤ g ∧ v = .int .i64 k ∧ Aside0 (Below w.heap.size w wr))
  case atStart => exact ⟨0, Nat.zero_le _, by omega, rfl, ⟨Below.refl _ _⟩⟩
  case round =>
    obtain ⟨k, hk, hg, rfl, BW⟩ := hrel
    by_cases hlt : k < xs.length
    · obtain ⟨ad, e1, p0, p1⟩ := at_Way (Kd.C_below hr BW.out) k hlt
      obtain ⟨ae, e2, r0, r1⟩ := at_Way (Kd.C_below gr BW.out) k hlt
      subst e1
      subst e2
      have hx := HX.out (xs.getD k zWay) (getD_mem xs zWay hlt)
      generalize xs.getD k zWay = y at hx p0 r0 p1 r1
      have hcall := eqWay_any y   wr.drew hx  
      have BD : Aside0 (Below w.heap.size w wr.drew) := ⟨bel_then BW.out (drew_below wr)⟩
      clear hx 
      go_wp2
      go_still_tail 8, (by kernel_rfl)
      change wpList _ _ _ _ _ wr.drew
      generalize wr.drew = wd at BD hcall
      clear BW
      go_wp2_with (go_at_call 138; refine hcall.mono ?_; rintro e w1 ⟨rfl, hb1⟩)
      go_roundg (xs.length - (k + 1))
      case measure => omega
      case rel => exact ⟨k + 1, by omega, Nat.le_refl _, rfl, ⟨bel_then BD.out hb1⟩⟩
    · go_wp2
      go_ret
      exact ⟨rfl, BW.out⟩
set_option maxRecDepth 100000 in
set_option maxHeartbeats 1000000 in
theorem eqRcpt_any (x : SRcpt)   (w : World) (hw : fitRcpt x)   :
    Calls Tryz.prog 224 #[.agg #[.string x.f0.f0, .string x.f0.f1, .int .i64 x.f1, .int .i64 x.f2], .agg #[.string x.f0.f0, .string x.f0.f1, .int .i64 x.f1, .int .i64 x.f2]] w fun e w' => e = .returned (.bool true) ∧ Below w.heap.size w w' := by
  unfold fitRcpt at hw
  obtain ⟨hw_0, hw_1, hw_2⟩ := hw
  have hc_0 := fun (W : World) (hW : Below w.heap.size w W) => eqAddr_any x.f0   W hw_0  
  clear hw_0 hw_1 hw_2
  have B0 := Below.refl w.heap.size w
  go_enter Tryz.func224, Tryz.ntmps224
  go_wp2_with fail
  refine (hc_0 _ (by (with_reducible repeat (first | exact B0 | refine bel_alloc ?_ _ | refine bel_set ?_ _ ?_)); all_goals (first | (simp; done) | (simp; omega) | omega))).mono ?_
  rintro e w0 ⟨rfl, b0⟩
  have B1 : Below w.heap.size w w0 := bel_then (by (with_reducible repeat (first | exact B0 | refine bel_alloc ?_ _ | refine bel_set ?_ _ ?_)); all_goals (first | (simp; done) | (simp; omega) | omega)) b0
  obtain ⟨q0, p0⟩ := bcell b0
  have z0 : w.heap.size + 1 < w0.heap.size := by have := b0.size; (try simp at this); omega
  have x0 : w.heap.size < w0.heap.size := by omega
  clear b0 hc_0
  go_wp2
  go_ret
  exact ⟨rfl, by (with_reducible repeat (first | exact B1 | refine bel_alloc ?_ _ | refine bel_set ?_ _ ?_)); all_goals (first | (simp; done) | (simp; omega) | omega)⟩
set_option maxRecDepth 100000 in
set_option maxHeartbeats 1000000 in
theorem eqRcptS_any (A : Option Addr) (c : Nat) (B : Option Addr) (d : Nat) (xs : List SRcpt) (w : World) (hw : (xs.length ≤ 1048576 ∧ ∀ y ∈ xs, fitRcpt y)) (hr : Kd.C kRcpt w A xs.length xs) (gr : Kd.C kRcpt w B xs.length xs) :
    Calls Tryz.prog 203 #[.slice A xs.length c, .slice B xs.length d] w fun e w' => e = .returned (.bool true) ∧ Below w.heap.size w w' := by
  obtain ⟨hwl, hwx⟩ := hw
  have HX := Lib.hid hwx
  clear hwx
  go_enter Tryz.func203, Tryz.ntmps203
  go_wp2
  go_loopg [5] (xs.length) (fun g v wr => ∃ k : Nat, k ≤ xs.length ∧ xs.length - k ≤ g ∧ v = .int .i64 k ∧ Aside0 (Below w.heap.size w wr))
  case atStart => exact ⟨0, Nat.zero_le _, by omega, rfl, ⟨Below.refl _ _⟩⟩
  case round =>
    obtain ⟨k, hk, hg, rfl, BW⟩ := hrel
    by_cases hlt : k < xs.length
    · obtain ⟨ad, e1, p0, p1, p2, p3⟩ := at_Rcpt (Kd.C_below hr BW.out) k hlt
      obtain ⟨ae, e2, r0, r1, r2, r3⟩ := at_Rcpt (Kd.C_below gr BW.out) k hlt
      subst e1
      subst e2
      have hx := HX.out (xs.getD k zRcpt) (getD_mem xs zRcpt hlt)
      generalize xs.getD k zRcpt = y at hx p0 r0 p1 r1 p2 r2 p3 r3
      have hcall := eqRcpt_any y   wr.drew hx  
      have BD : Aside0 (Below w.heap.size w wr.drew) := ⟨bel_then BW.out (drew_below wr)⟩
      clear hx 
      go_wp2
      go_still_tail 8, (by kernel_rfl)
      change wpList _ _ _ _ _ wr.drew
      generalize wr.drew = wd at BD hcall
      clear BW
      go_wp2_with (go_at_call 224; refine hcall.mono ?_; rintro e w1 ⟨rfl, hb1⟩)
      go_roundg (xs.length - (k + 1))
      case measure => omega
      case rel => exact ⟨k + 1, by omega, Nat.le_refl _, rfl, ⟨bel_then BD.out hb1⟩⟩
    · go_wp2
      go_ret
      exact ⟨rfl, BW.out⟩
set_option maxRecDepth 100000 in
set_option maxHeartbeats 1000000 in
theorem eqMail_any (x : SMail) (A0 : Option Addr) (c0 : Nat) (A1 : Option Addr) (c1 : Nat) (B0 : Option Addr) (d0 : Nat) (B1 : Option Addr) (d1 : Nat) (w : World) (hw : fitMail x) (hr0 : Kd.C kAddr w A0 x.f1.length x.f1) (hr1 : Kd.C Kd.string w A1 x.f2.length x.f2) (gr0 : Kd.C kAddr w B0 x.f1.length x.f1) (gr1 : Kd.C Kd.string w B1 x.f2.length x.f2) :
    Calls Tryz.prog 42 #[.agg #[.string x.f0.f0, .string x.f0.f1, .slice A0 x.f1.length c0, .slice A1 x.f2.length c1], .agg #[.string x.f0.f0, .string x.f0.f1, .slice B0 x.f1.length d0, .slice B1 x.f2.length d1]] w fun e w' => e = .returned (.bool true) ∧ Below w.heap.size w w' := by
  unfold fitMail at hw
  obtain ⟨hw_0, hw_1, hw_2⟩ := hw
  have hc_0 := fun (W : World) (hW : Below w.heap.size w W) => eqAddr_any x.f0   W hw_0  
  have hc_1 := fun (W : World) (hW : Below w.heap.size w W) => eqAddrS_any A0 c0 B0 d0 x.f1 W hw_1 (Kd.C_below hr0 hW) (Kd.C_below gr0 hW)
  have hc_2 := fun (W : World) (hW : Below w.heap.size w W) => eqStringS_any A1 c1 B1 d1 x.f2 W hw_2 (Kd.C_below hr1 hW) (Kd.C_below gr1 hW)
  clear hw_0 hw_1 hw_2 hr0 gr0 hr1 gr1
  have B0 := Below.refl w.heap.size w
  go_enter Tryz.func42, Tryz.ntmps42
  go_wp2_with fail
  refine (hc_0 _ (by (with_reducible repeat (first | exact B0 | refine bel_alloc ?_ _ | refine bel_set ?_ _ ?_)); all_goals (first | (simp; done) | (simp; omega) | omega))).mono ?_
  rintro e w0 ⟨rfl, b0⟩
  have B1 : Below w.heap.size w w0 := bel_then (by (with_reducible repeat (first | exact B0 | refine bel_alloc ?_ _ | refine bel_set ?_ _ ?_)); all_goals (first | (simp; done) | (simp; omega) | omega)) b0
  obtain ⟨q0, p0⟩ := bcell b0
  have z0 : w.heap.size + 1 < w0.heap.size := by have := b0.size; (try simp at this); omega
  have x0 : w.heap.size < w0.heap.size := by omega
  clear b0 hc_0
  go_wp2_with fail
  refine (hc_1 _ (by (with_reducible repeat (first | exact B1 | refine bel_alloc ?_ _ | refine bel_set ?_ _ ?_)); all_goals (first | (simp; done) | (simp; omega) | omega))).mono ?_
  rintro e w1 ⟨rfl, b1⟩
  have B2 : Below w.heap.size w w1 := bel_then (by (with_reducible repeat (first | exact B1 | refine bel_alloc ?_ _ | refine bel_set ?_ _ ?_)); all_goals (first | (simp; done) | (simp; omega) | omega)) b1
  obtain ⟨q1, p1⟩ := bcell b1
  have z1 : w.heap.size + 1 < w1.heap.size := by have := b1.size; (try simp at this); omega
  have x1 : w.heap.size < w1.heap.size := by omega
  clear b1 hc_1
  go_wp2_with fail
  refine (hc_2 _ (by (with_reducible repeat (first | exact B2 | refine bel_alloc ?_ _ | refine bel_set ?_ _ ?_)); all_goals (first | (simp; done) | (simp; omega) | omega))).mono ?_
  rintro e w2 ⟨rfl, b2⟩
  have B3 : Below w.heap.size w w2 := bel_then (by (with_reducible repeat (first | exact B2 | refine bel_alloc ?_ _ | refine bel_set ?_ _ ?_)); all_goals (first | (simp; done) | (simp; omega) | omega)) b2
  obtain ⟨q2, p2⟩ := bcell b2
  have z2 : w.heap.size + 1 < w2.heap.size := by have := b2.size; (try simp at this); omega
  have x2 : w.heap.size < w2.heap.size := by omega
  clear b2 hc_2
  go_wp2
  go_ret
  exact ⟨rfl, by (with_reducible repeat (first | exact B3 | refine bel_alloc ?_ _ | refine bel_set ?_ _ ?_)); all_goals (first | (simp; done) | (simp; omega) | omega)⟩
set_option maxRecDepth 100000 in
set_option maxHeartbeats 1000000 in
theorem eqItem_any (x : SItem) (A0 : Option Addr) (c0 : Nat) (A1 : Option Addr) (c1 : Nat) (B0 : Option Addr) (d0 : Nat) (B1 : Option Addr) (d1 : Nat) (w : World) (hw : fitItem x) (hr0 : Kd.C kRcpt w A0 x.f2.length x.f2) (hr1 : Kd.C Kd.string w A1 x.f3.length x.f3) (gr0 : Kd.C kRcpt w B0 x.f2.length x.f2) (gr1 : Kd.C Kd.string w B1 x.f3.length x.f3) :
    Calls Tryz.prog 178 #[.agg #[.int .i64 x.f0, .string x.f1.f0, .string x.f1.f1, .slice A0 x.f2.length c0, .slice A1 x.f3.length c1], .agg #[.int .i64 x.f0, .string x.f1.f0, .string x.f1.f1, .slice B0 x.f2.length d0, .slice B1 x.f3.length d1]] w fun e w' => e = .returned (.bool true) ∧ Below w.heap.size w w' := by
  unfold fitItem at hw
  obtain ⟨hw_0, hw_1, hw_2, hw_3⟩ := hw
  have hc_1 := fun (W : World) (hW : Below w.heap.size w W) => eqAddr_any x.f1   W hw_1  
  have hc_2 := fun (W : World) (hW : Below w.heap.size w W) => eqRcptS_any A0 c0 B0 d0 x.f2 W hw_2 (Kd.C_below hr0 hW) (Kd.C_below gr0 hW)
  have hc_3 := fun (W : World) (hW : Below w.heap.size w W) => eqStringS_any A1 c1 B1 d1 x.f3 W hw_3 (Kd.C_below hr1 hW) (Kd.C_below gr1 hW)
  clear hw_0 hw_1 hw_2 hw_3 hr0 gr0 hr1 gr1
  have B0 := Below.refl w.heap.size w
  go_enter Tryz.func178, Tryz.ntmps178
  go_wp2_with fail
  refine (hc_1 _ (by (with_reducible repeat (first | exact B0 | refine bel_alloc ?_ _ | refine bel_set ?_ _ ?_)); all_goals (first | (simp; done) | (simp; omega) | omega))).mono ?_
  rintro e w1 ⟨rfl, b1⟩
  have B2 : Below w.heap.size w w1 := bel_then (by (with_reducible repeat (first | exact B0 | refine bel_alloc ?_ _ | refine bel_set ?_ _ ?_)); all_goals (first | (simp; done) | (simp; omega) | omega)) b1
  obtain ⟨q1, p1⟩ := bcell b1
  have z1 : w.heap.size + 1 < w1.heap.size := by have := b1.size; (try simp at this); omega
  have x1 : w.heap.size < w1.heap.size := by omega
  clear b1 hc_1
  go_wp2_with fail
  refine (hc_2 _ (by (with_reducible repeat (first | exact B2 | refine bel_alloc ?_ _ | refine bel_set ?_ _ ?_)); all_goals (first | (simp; done) | (simp; omega) | omega))).mono ?_
  rintro e w2 ⟨rfl, b2⟩
  have B3 : Below w.heap.size w w2 := bel_then (by (with_reducible repeat (first | exact B2 | refine bel_alloc ?_ _ | refine bel_set ?_ _ ?_)); all_goals (first | (simp; done) | (simp; omega) | omega)) b2
  obtain ⟨q2, p2⟩ := bcell b2
  have z2 : w.heap.size + 1 < w2.heap.size := by have := b2.size; (try simp at this); omega
  have x2 : w.heap.size < w2.heap.size := by omega
  clear b2 hc_2
  go_wp2_with fail
  refine (hc_3 _ (by (with_reducible repeat (first | exact B3 | refine bel_alloc ?_ _ | refine bel_set ?_ _ ?_)); all_goals (first | (simp; done) | (simp; omega) | omega))).mono ?_
  rintro e w3 ⟨rfl, b3⟩
  have B4 : Below w.heap.size w w3 := bel_then (by (with_reducible repeat (first | exact B3 | refine bel_alloc ?_ _ | refine bel_set ?_ _ ?_)); all_goals (first | (simp; done) | (simp; omega) | omega)) b3
  obtain ⟨q3, p3⟩ := bcell b3
  have z3 : w.heap.size + 1 < w3.heap.size := by have := b3.size; (try simp at this); omega
  have x3 : w.heap.size < w3.heap.size := by omega
  clear b3 hc_3
  go_wp2
  go_ret
  exact ⟨rfl, by (with_reducible repeat (first | exact B4 | refine bel_alloc ?_ _ | refine bel_set ?_ _ ?_)); all_goals (first | (simp; done) | (simp; omega) | omega)⟩
set_option maxRecDepth 100000 in
set_option maxHeartbeats 1000000 in
theorem eqItemS_any (A : Option Addr) (c : Nat) (B : Option Addr) (d : Nat) (xs : List SItem) (w : World) (hw : (xs.length ≤ 1048576 ∧ ∀ y ∈ xs, fitItem y)) (hr : Kd.C kItem w A xs.length xs) (gr : Kd.C kItem w B xs.length xs) :
    Calls Tryz.prog 135 #[.slice A xs.length c, .slice B xs.length d] w fun e w' => e = .returned (.bool true) ∧ Below w.heap.size w w' := by
  obtain ⟨hwl, hwx⟩ := hw
  have HX := Lib.hid hwx
  clear hwx
  go_enter Tryz.func135, Tryz.ntmps135
  go_wp2
  go_loopg [5] (xs.length) (fun g v wr => ∃ k : Nat, k ≤ xs.length ∧ xs.length - k ≤ g ∧ v = .int .i64 k ∧ Aside0 (Below w.heap.size w wr))
  case atStart => exact ⟨0, Nat.zero_le _, by omega, rfl, ⟨Below.refl _ _⟩⟩
  case round =>
    obtain ⟨k, hk, hg, rfl, BW⟩ := hrel
    by_cases hlt : k < xs.length
    · obtain ⟨ad, A0, c0, A1, c1, e1, p0, p1, p2, p3, p4, l0, q0, l1, q1⟩ := at_Item (Kd.C_below hr BW.out) k hlt
      obtain ⟨ae, B0, d0, B1, d1, e2, r0, r1, r2, r3, r4, m0, s0, m1, s1⟩ := at_Item (Kd.C_below gr BW.out) k hlt
      subst e1
      subst e2
      have hx := HX.out (xs.getD k zItem) (getD_mem xs zItem hlt)
      generalize xs.getD k zItem = y at hx p0 r0 p1 r1 p2 r2 p3 r3 p4 r4 q0 l0 s0 m0 q1 l1 s1 m1
      have hcall := eqItem_any y A0 c0 A1 c1 B0 d0 B1 d1 wr.drew hx (Kd.C_below q0 (drew_below wr)) (Kd.C_below q1 (drew_below wr)) (Kd.C_below s0 (drew_below wr)) (Kd.C_below s1 (drew_below wr))
      have BD : Aside0 (Below w.heap.size w wr.drew) := ⟨bel_then BW.out (drew_below wr)⟩
      clear hx q0 s0 q1 s1
      go_wp2
      go_still_tail 8, (by kernel_rfl)
      change wpList _ _ _ _ _ wr.drew
      generalize wr.drew = wd at BD hcall
      clear BW
      go_wp2_with (go_at_call 178; refine hcall.mono ?_; rintro e w1 ⟨rfl, hb1⟩)
      go_roundg (xs.length - (k + 1))
      case measure => omega
      case rel => exact ⟨k + 1, by omega, Nat.le_refl _, rfl, ⟨bel_then BD.out hb1⟩⟩
    · go_wp2
      go_ret
      exact ⟨rfl, BW.out⟩
set_option maxRecDepth 100000 in
set_option maxHeartbeats 1000000 in
theorem eqSpool_any (x : SSpool) (A0 : Option Addr) (c0 : Nat) (B0 : Option Addr) (d0 : Nat) (w : World) (hw : fitSpool x) (hr0 : Kd.C kItem w A0 x.f1.length x.f1) (gr0 : Kd.C kItem w B0 x.f1.length x.f1) :
    Calls Tryz.prog 69 #[.agg #[.int .i64 x.f0, .slice A0 x.f1.length c0], .agg #[.int .i64 x.f0, .slice B0 x.f1.length d0]] w fun e w' => e = .returned (.bool true) ∧ Below w.heap.size w w' := by
  unfold fitSpool at hw
  obtain ⟨hw_0, hw_1⟩ := hw
  have hc_1 := fun (W : World) (hW : Below w.heap.size w W) => eqItemS_any A0 c0 B0 d0 x.f1 W hw_1 (Kd.C_below hr0 hW) (Kd.C_below gr0 hW)
  clear hw_0 hw_1 hr0 gr0
  have B0 := Below.refl w.heap.size w
  go_enter Tryz.func69, Tryz.ntmps69
  go_wp2_with fail
  refine (hc_1 _ (by (with_reducible repeat (first | exact B0 | refine bel_alloc ?_ _ | refine bel_set ?_ _ ?_)); all_goals (first | (simp; done) | (simp; omega) | omega))).mono ?_
  rintro e w1 ⟨rfl, b1⟩
  have B2 : Below w.heap.size w w1 := bel_then (by (with_reducible repeat (first | exact B0 | refine bel_alloc ?_ _ | refine bel_set ?_ _ ?_)); all_goals (first | (simp; done) | (simp; omega) | omega)) b1
  obtain ⟨q1, p1⟩ := bcell b1
  have z1 : w.heap.size + 1 < w1.heap.size := by have := b1.size; (try simp at this); omega
  have x1 : w.heap.size < w1.heap.size := by omega
  clear b1 hc_1
  go_wp2
  go_ret
  exact ⟨rfl, by (with_reducible repeat (first | exact B2 | refine bel_alloc ?_ _ | refine bel_set ?_ _ ?_)); all_goals (first | (simp; done) | (simp; omega) | omega)⟩
set_option maxRecDepth 100000 in
set_option maxHeartbeats 1000000 in
theorem eqConf_any (x : SConf) (A0 : Option Addr) (c0 : Nat) (A1 : Option Addr) (c1 : Nat) (B0 : Option Addr) (d0 : Nat) (B1 : Option Addr) (d1 : Nat) (w : World) (hw : fitConf x) (hr0 : Kd.C Kd.string w A0 x.f1.length x.f1) (hr1 : Kd.C kWay w A1 x.f2.length x.f2) (gr0 : Kd.C Kd.string w B0 x.f1.length x.f1) (gr1 : Kd.C kWay w B1 x.f2.length x.f2) :
    Calls Tryz.prog 29 #[.agg #[.string x.f0, .slice A0 x.f1.length c0, .slice A1 x.f2.length c1], .agg #[.string x.f0, .slice B0 x.f1.length d0, .slice B1 x.f2.length d1]] w fun e w' => e = .returned (.bool true) ∧ Below w.heap.size w w' := by
  unfold fitConf at hw
  obtain ⟨hw_0, hw_1, hw_2⟩ := hw
  have hc_1 := fun (W : World) (hW : Below w.heap.size w W) => eqStringS_any A0 c0 B0 d0 x.f1 W hw_1 (Kd.C_below hr0 hW) (Kd.C_below gr0 hW)
  have hc_2 := fun (W : World) (hW : Below w.heap.size w W) => eqWayS_any A1 c1 B1 d1 x.f2 W hw_2 (Kd.C_below hr1 hW) (Kd.C_below gr1 hW)
  clear hw_0 hw_1 hw_2 hr0 gr0 hr1 gr1
  have B0 := Below.refl w.heap.size w
  go_enter Tryz.func29, Tryz.ntmps29
  go_wp2_with fail
  refine (hc_1 _ (by (with_reducible repeat (first | exact B0 | refine bel_alloc ?_ _ | refine bel_set ?_ _ ?_)); all_goals (first | (simp; done) | (simp; omega) | omega))).mono ?_
  rintro e w1 ⟨rfl, b1⟩
  have B2 : Below w.heap.size w w1 := bel_then (by (with_reducible repeat (first | exact B0 | refine bel_alloc ?_ _ | refine bel_set ?_ _ ?_)); all_goals (first | (simp; done) | (simp; omega) | omega)) b1
  obtain ⟨q1, p1⟩ := bcell b1
  have z1 : w.heap.size + 1 < w1.heap.size := by have := b1.size; (try simp at this); omega
  have x1 : w.heap.size < w1.heap.size := by omega
  clear b1 hc_1
  go_wp2_with fail
  refine (hc_2 _ (by (with_reducible repeat (first | exact B2 | refine bel_alloc ?_ _ | refine bel_set ?_ _ ?_)); all_goals (first | (simp; done) | (simp; omega) | omega))).mono ?_
  rintro e w2 ⟨rfl, b2⟩
  have B3 : Below w.heap.size w w2 := bel_then (by (with_reducible repeat (first | exact B2 | refine bel_alloc ?_ _ | refine bel_set ?_ _ ?_)); all_goals (first | (simp; done) | (simp; omega) | omega)) b2
  obtain ⟨q2, p2⟩ := bcell b2
  have z2 : w.heap.size + 1 < w2.heap.size := by have := b2.size; (try simp at this); omega
  have x2 : w.heap.size < w2.heap.size := by omega
  clear b2 hc_2
  go_wp2
  go_ret
  exact ⟨rfl, by (with_reducible repeat (first | exact B3 | refine bel_alloc ?_ _ | refine bel_set ?_ _ ?_)); all_goals (first | (simp; done) | (simp; omega) | omega)⟩
set_option maxRecDepth 100000 in
set_option maxHeartbeats 1000000 in
theorem eqCli_any (x : SCli) (A0 : Option Addr) (c0 : Nat) (A1 : Option Addr) (c1 : Nat) (A2 : Option Addr) (c2 : Nat) (B0 : Option Addr) (d0 : Nat) (B1 : Option Addr) (d1 : Nat) (B2 : Option Addr) (d2 : Nat) (w : World) (hw : fitCli x) (hr0 : Kd.C kAddr w A0 x.f1.f1.length x.f1.f1) (hr1 : Kd.C Kd.string w A1 x.f1.f2.length x.f1.f2) (hr2 : Kd.C (Kd.int .i64) w A2 x.f4.length x.f4) (gr0 : Kd.C kAddr w B0 x.f1.f1.length x.f1.f1) (gr1 : Kd.C Kd.string w B1 x.f1.f2.length x.f1.f2) (gr2 : Kd.C (Kd.int .i64) w B2 x.f4.length x.f4) :
    Calls Tryz.prog 11 #[.agg #[.string x.f0, .string x.f1.f0.f0, .string x.f1.f0.f1, .slice A0 x.f1.f1.length c0, .slice A1 x.f1.f2.length c1, .int .i64 x.f2, .int .i64 x.f3, .slice A2 x.f4.length c2], .agg #[.string x.f0, .string x.f1.f0.f0, .string x.f1.f0.f1, .slice B0 x.f1.f1.length d0, .slice B1 x.f1.f2.length d1, .int .i64 x.f2, .int .i64 x.f3, .slice B2 x.f4.length d2]] w fun e w' => e = .returned (.bool true) ∧ Below w.heap.size w w' := by
  unfold fitCli at hw
  obtain ⟨hw_0, hw_1, hw_2, hw_3, hw_4⟩ := hw
  have hc_1 := fun (W : World) (hW : Below w.heap.size w W) => eqMail_any x.f1 A0 c0 A1 c1 B0 d0 B1 d1 W hw_1 (Kd.C_below hr0 hW) (Kd.C_below hr1 hW) (Kd.C_below gr0 hW) (Kd.C_below gr1 hW)
  have hc_4 := fun (W : World) (hW : Below w.heap.size w W) => eqIntS_any A2 c2 B2 d2 x.f4 W hw_4 (Kd.C_below hr2 hW) (Kd.C_below gr2 hW)
  clear hw_0 hw_1 hw_2 hw_3 hw_4 hr0 gr0 hr1 gr1 hr2 gr2
  have B0 := Below.refl w.heap.size w
  go_enter Tryz.func11, Tryz.ntmps11
  go_wp2_with fail
  refine (hc_1 _ (by (with_reducible repeat (first | exact B0 | refine bel_alloc ?_ _ | refine bel_set ?_ _ ?_)); all_goals (first | (simp; done) | (simp; omega) | omega))).mono ?_
  rintro e w1 ⟨rfl, b1⟩
  have B2 : Below w.heap.size w w1 := bel_then (by (with_reducible repeat (first | exact B0 | refine bel_alloc ?_ _ | refine bel_set ?_ _ ?_)); all_goals (first | (simp; done) | (simp; omega) | omega)) b1
  obtain ⟨q1, p1⟩ := bcell b1
  have z1 : w.heap.size + 1 < w1.heap.size := by have := b1.size; (try simp at this); omega
  have x1 : w.heap.size < w1.heap.size := by omega
  clear b1 hc_1
  go_wp2_with fail
  refine (hc_4 _ (by (with_reducible repeat (first | exact B2 | refine bel_alloc ?_ _ | refine bel_set ?_ _ ?_)); all_goals (first | (simp; done) | (simp; omega) | omega))).mono ?_
  rintro e w4 ⟨rfl, b4⟩
  have B5 : Below w.heap.size w w4 := bel_then (by (with_reducible repeat (first | exact B2 | refine bel_alloc ?_ _ | refine bel_set ?_ _ ?_)); all_goals (first | (simp; done) | (simp; omega) | omega)) b4
  obtain ⟨q4, p4⟩ := bcell b4
  have z4 : w.heap.size + 1 < w4.heap.size := by have := b4.size; (try simp at this); omega
  have x4 : w.heap.size < w4.heap.size := by omega
  clear b4 hc_4
  go_wp2
  go_ret
  exact ⟨rfl, by (with_reducible repeat (first | exact B5 | refine bel_alloc ?_ _ | refine bel_set ?_ _ ?_)); all_goals (first | (simp; done) | (simp; omega) | omega)⟩
set_option maxRecDepth 100000 in
set_option maxHeartbeats 1000000 in
theorem eqGot_any (x : SGot) (A0 : Option Addr) (c0 : Nat) (B0 : Option Addr) (d0 : Nat) (w : World) (hw : fitGot x) (hr0 : Kd.C Kd.string w A0 x.f1.length x.f1) (gr0 : Kd.C Kd.string w B0 x.f1.length x.f1) :
    Calls Tryz.prog 204 #[.agg #[.string x.f0.f0, .string x.f0.f1, .slice A0 x.f1.length c0], .agg #[.string x.f0.f0, .string x.f0.f1, .slice B0 x.f1.length d0]] w fun e w' => e = .returned (.bool true) ∧ Below w.heap.size w w' := by
  unfold fitGot at hw
  obtain ⟨hw_0, hw_1⟩ := hw
  have hc_0 := fun (W : World) (hW : Below w.heap.size w W) => eqAddr_any x.f0   W hw_0  
  have hc_1 := fun (W : World) (hW : Below w.heap.size w W) => eqStringS_any A0 c0 B0 d0 x.f1 W hw_1 (Kd.C_below hr0 hW) (Kd.C_below gr0 hW)
  clear hw_0 hw_1 hr0 gr0
  have B0 := Below.refl w.heap.size w
  go_enter Tryz.func204, Tryz.ntmps204
  go_wp2_with fail
  refine (hc_0 _ (by (with_reducible repeat (first | exact B0 | refine bel_alloc ?_ _ | refine bel_set ?_ _ ?_)); all_goals (first | (simp; done) | (simp; omega) | omega))).mono ?_
  rintro e w0 ⟨rfl, b0⟩
  have B1 : Below w.heap.size w w0 := bel_then (by (with_reducible repeat (first | exact B0 | refine bel_alloc ?_ _ | refine bel_set ?_ _ ?_)); all_goals (first | (simp; done) | (simp; omega) | omega)) b0
  obtain ⟨q0, p0⟩ := bcell b0
  have z0 : w.heap.size + 1 < w0.heap.size := by have := b0.size; (try simp at this); omega
  have x0 : w.heap.size < w0.heap.size := by omega
  clear b0 hc_0
  go_wp2_with fail
  refine (hc_1 _ (by (with_reducible repeat (first | exact B1 | refine bel_alloc ?_ _ | refine bel_set ?_ _ ?_)); all_goals (first | (simp; done) | (simp; omega) | omega))).mono ?_
  rintro e w1 ⟨rfl, b1⟩
  have B2 : Below w.heap.size w w1 := bel_then (by (with_reducible repeat (first | exact B1 | refine bel_alloc ?_ _ | refine bel_set ?_ _ ?_)); all_goals (first | (simp; done) | (simp; omega) | omega)) b1
  obtain ⟨q1, p1⟩ := bcell b1
  have z1 : w.heap.size + 1 < w1.heap.size := by have := b1.size; (try simp at this); omega
  have x1 : w.heap.size < w1.heap.size := by omega
  clear b1 hc_1
  go_wp2
  go_ret
  exact ⟨rfl, by (with_reducible repeat (first | exact B2 | refine bel_alloc ?_ _ | refine bel_set ?_ _ ?_)); all_goals (first | (simp; done) | (simp; omega) | omega)⟩
set_option maxRecDepth 100000 in
set_option maxHeartbeats 1000000 in
theorem eqGotS_any (A : Option Addr) (c : Nat) (B : Option Addr) (d : Nat) (xs : List SGot) (w : World) (hw : (xs.length ≤ 1048576 ∧ ∀ y ∈ xs, fitGot y)) (hr : Kd.C kGot w A xs.length xs) (gr : Kd.C kGot w B xs.length xs) :
    Calls Tryz.prog 179 #[.slice A xs.length c, .slice B xs.length d] w fun e w' => e = .returned (.bool true) ∧ Below w.heap.size w w' := by
  obtain ⟨hwl, hwx⟩ := hw
  have HX := Lib.hid hwx
  clear hwx
  go_enter Tryz.func179, Tryz.ntmps179
  go_wp2
  go_loopg [5] (xs.length) (fun g v wr => ∃ k : Nat, k ≤ xs.length ∧ xs.length - k ≤ g ∧ v = .int .i64 k ∧ Aside0 (Below w.heap.size w wr))
  case atStart => exact ⟨0, Nat.zero_le _, by omega, rfl, ⟨Below.refl _ _⟩⟩
  case round =>
    obtain ⟨k, hk, hg, rfl, BW⟩ := hrel
    by_cases hlt : k < xs.length
    · obtain ⟨ad, A0, c0, e1, p0, p1, p2, l0, q0⟩ := at_Got (Kd.C_below hr BW.out) k hlt
      obtain ⟨ae, B0, d0, e2, r0, r1, r2, m0, s0⟩ := at_Got (Kd.C_below gr BW.out) k hlt
      subst e1
      subst e2
      have hx := HX.out (xs.getD k zGot) (getD_mem xs zGot hlt)
      generalize xs.getD k zGot = y at hx p0 r0 p1 r1 p2 r2 q0 l0 s0 m0
      have hcall := eqGot_any y A0 c0 B0 d0 wr.drew hx (Kd.C_below q0 (drew_below wr)) (Kd.C_below s0 (drew_below wr))
      have BD : Aside0 (Below w.heap.size w wr.drew) := ⟨bel_then BW.out (drew_below wr)⟩
      clear hx q0 s0
      go_wp2
      go_still_tail 8, (by kernel_rfl)
      change wpList _ _ _ _ _ wr.drew
      generalize wr.drew = wd at BD hcall
      clear BW
      go_wp2_with (go_at_call 204; refine hcall.mono ?_; rintro e w1 ⟨rfl, hb1⟩)
      go_roundg (xs.length - (k + 1))
      case measure => omega
      case rel => exact ⟨k + 1, by omega, Nat.le_refl _, rfl, ⟨bel_then BD.out hb1⟩⟩
    · go_wp2
      go_ret
      exact ⟨rfl, BW.out⟩
set_option maxRecDepth 100000 in
set_option maxHeartbeats 1000000 in
theorem eqBox_any (x : SBox) (A0 : Option Addr) (c0 : Nat) (B0 : Option Addr) (d0 : Nat) (w : World) (hw : fitBox x) (hr0 : Kd.C kGot w A0 x.f1.length x.f1) (gr0 : Kd.C kGot w B0 x.f1.length x.f1) :
    Calls Tryz.prog 136 #[.agg #[.string x.f0.f0, .string x.f0.f1, .slice A0 x.f1.length c0], .agg #[.string x.f0.f0, .string x.f0.f1, .slice B0 x.f1.length d0]] w fun e w' => e = .returned (.bool true) ∧ Below w.heap.size w w' := by
  unfold fitBox at hw
  obtain ⟨hw_0, hw_1⟩ := hw
  have hc_0 := fun (W : World) (hW : Below w.heap.size w W) => eqAddr_any x.f0   W hw_0  
  have hc_1 := fun (W : World) (hW : Below w.heap.size w W) => eqGotS_any A0 c0 B0 d0 x.f1 W hw_1 (Kd.C_below hr0 hW) (Kd.C_below gr0 hW)
  clear hw_0 hw_1 hr0 gr0
  have B0 := Below.refl w.heap.size w
  go_enter Tryz.func136, Tryz.ntmps136
  go_wp2_with fail
  refine (hc_0 _ (by (with_reducible repeat (first | exact B0 | refine bel_alloc ?_ _ | refine bel_set ?_ _ ?_)); all_goals (first | (simp; done) | (simp; omega) | omega))).mono ?_
  rintro e w0 ⟨rfl, b0⟩
  have B1 : Below w.heap.size w w0 := bel_then (by (with_reducible repeat (first | exact B0 | refine bel_alloc ?_ _ | refine bel_set ?_ _ ?_)); all_goals (first | (simp; done) | (simp; omega) | omega)) b0
  obtain ⟨q0, p0⟩ := bcell b0
  have z0 : w.heap.size + 1 < w0.heap.size := by have := b0.size; (try simp at this); omega
  have x0 : w.heap.size < w0.heap.size := by omega
  clear b0 hc_0
  go_wp2_with fail
  refine (hc_1 _ (by (with_reducible repeat (first | exact B1 | refine bel_alloc ?_ _ | refine bel_set ?_ _ ?_)); all_goals (first | (simp; done) | (simp; omega) | omega))).mono ?_
  rintro e w1 ⟨rfl, b1⟩
  have B2 : Below w.heap.size w w1 := bel_then (by (with_reducible repeat (first | exact B1 | refine bel_alloc ?_ _ | refine bel_set ?_ _ ?_)); all_goals (first | (simp; done) | (simp; omega) | omega)) b1
  obtain ⟨q1, p1⟩ := bcell b1
  have z1 : w.heap.size + 1 < w1.heap.size := by have := b1.size; (try simp at this); omega
  have x1 : w.heap.size < w1.heap.size := by omega
  clear b1 hc_1
  go_wp2
  go_ret
  exact ⟨rfl, by (with_reducible repeat (first | exact B2 | refine bel_alloc ?_ _ | refine bel_set ?_ _ ?_)); all_goals (first | (simp; done) | (simp; omega) | omega)⟩
set_option maxRecDepth 100000 in
set_option maxHeartbeats 1000000 in
theorem eqBoxS_any (A : Option Addr) (c : Nat) (B : Option Addr) (d : Nat) (xs : List SBox) (w : World) (hw : (xs.length ≤ 1048576 ∧ ∀ y ∈ xs, fitBox y)) (hr : Kd.C kBox w A xs.length xs) (gr : Kd.C kBox w B xs.length xs) :
    Calls Tryz.prog 70 #[.slice A xs.length c, .slice B xs.length d] w fun e w' => e = .returned (.bool true) ∧ Below w.heap.size w w' := by
  obtain ⟨hwl, hwx⟩ := hw
  have HX := Lib.hid hwx
  clear hwx
  go_enter Tryz.func70, Tryz.ntmps70
  go_wp2
  go_loopg [5] (xs.length) (fun g v wr => ∃ k : Nat, k ≤ xs.length ∧ xs.length - k ≤ g ∧ v = .int .i64 k ∧ Aside0 (Below w.heap.size w wr))
  case atStart => exact ⟨0, Nat.zero_le _, by omega, rfl, ⟨Below.refl _ _⟩⟩
  case round =>
    obtain ⟨k, hk, hg, rfl, BW⟩ := hrel
    by_cases hlt : k < xs.length
    · obtain ⟨ad, A0, c0, e1, p0, p1, p2, l0, q0⟩ := at_Box (Kd.C_below hr BW.out) k hlt
      obtain ⟨ae, B0, d0, e2, r0, r1, r2, m0, s0⟩ := at_Box (Kd.C_below gr BW.out) k hlt
      subst e1
      subst e2
      have hx := HX.out (xs.getD k zBox) (getD_mem xs zBox hlt)
      generalize xs.getD k zBox = y at hx p0 r0 p1 r1 p2 r2 q0 l0 s0 m0
      have hcall := eqBox_any y A0 c0 B0 d0 wr.drew hx (Kd.C_below q0 (drew_below wr)) (Kd.C_below s0 (drew_below wr))
      have BD : Aside0 (Below w.heap.size w wr.drew) := ⟨bel_then BW.out (drew_below wr)⟩
      clear hx q0 s0
      go_wp2
      go_still_tail 8, (by kernel_rfl)
      change wpList _ _ _ _ _ wr.drew
      generalize wr.drew = wd at BD hcall
      clear BW
      go_wp2_with (go_at_call 136; refine hcall.mono ?_; rintro e w1 ⟨rfl, hb1⟩)
      go_roundg (xs.length - (k + 1))
      case measure => omega
      case rel => exact ⟨k + 1, by omega, Nat.le_refl _, rfl, ⟨bel_then BD.out hb1⟩⟩
    · go_wp2
      go_ret
      exact ⟨rfl, BW.out⟩
set_option maxRecDepth 100000 in
set_option maxHeartbeats 1000000 in
theorem eqLoss_any (x : SLoss)   (w : World) (hw : fitLoss x)   :
    Calls Tryz.prog 137 #[.agg #[.string x.f0, .string x.f1.f0, .string x.f1.f1], .agg #[.string x.f0, .string x.f1.f0, .string x.f1.f1]] w fun e w' => e = .returned (.bool true) ∧ Below w.heap.size w w' := by
  unfold fitLoss at hw
  obtain ⟨hw_0, hw_1⟩ := hw
  have hc_1 := fun (W : World) (hW : Below w.heap.size w W) => eqAddr_any x.f1   W hw_1  
  clear hw_0 hw_1
  have B0 := Below.refl w.heap.size w
  go_enter Tryz.func137, Tryz.ntmps137
  go_wp2_with fail
  refine (hc_1 _ (by (with_reducible repeat (first | exact B0 | refine bel_alloc ?_ _ | refine bel_set ?_ _ ?_)); all_goals (first | (simp; done) | (simp; omega) | omega))).mono ?_
  rintro e w1 ⟨rfl, b1⟩
  have B2 : Below w.heap.size w w1 := bel_then (by (with_reducible repeat (first | exact B0 | refine bel_alloc ?_ _ | refine bel_set ?_ _ ?_)); all_goals (first | (simp; done) | (simp; omega) | omega)) b1
  obtain ⟨q1, p1⟩ := bcell b1
  have z1 : w.heap.size + 1 < w1.heap.size := by have := b1.size; (try simp at this); omega
  have x1 : w.heap.size < w1.heap.size := by omega
  clear b1 hc_1
  go_wp2
  go_ret
  exact ⟨rfl, by (with_reducible repeat (first | exact B2 | refine bel_alloc ?_ _ | refine bel_set ?_ _ ?_)); all_goals (first | (simp; done) | (simp; omega) | omega)⟩
set_option maxRecDepth 100000 in
set_option maxHeartbeats 1000000 in
theorem eqLossS_any (A : Option Addr) (c : Nat) (B : Option Addr) (d : Nat) (xs : List SLoss) (w : World) (hw : (xs.length ≤ 1048576 ∧ ∀ y ∈ xs, fitLoss y)) (hr : Kd.C kLoss w A xs.length xs) (gr : Kd.C kLoss w B xs.length xs) :
    Calls Tryz.prog 71 #[.slice A xs.length c, .slice B xs.length d] w fun e w' => e = .returned (.bool true) ∧ Below w.heap.size w w' := by
  obtain ⟨hwl, hwx⟩ := hw
  have HX := Lib.hid hwx
  clear hwx
  go_enter Tryz.func71, Tryz.ntmps71
  go_wp2
  go_loopg [5] (xs.length) (fun g v wr => ∃ k : Nat, k ≤ xs.length ∧ xs.length - k ≤ g ∧ v = .int .i64 k ∧ Aside0 (Below w.heap.size w wr))
  case atStart => exact ⟨0, Nat.zero_le _, by omega, rfl, ⟨Below.refl _ _⟩⟩
  case round =>
    obtain ⟨k, hk, hg, rfl, BW⟩ := hrel
    by_cases hlt : k < xs.length
    · obtain ⟨ad, e1, p0, p1, p2⟩ := at_Loss (Kd.C_below hr BW.out) k hlt
      obtain ⟨ae, e2, r0, r1, r2⟩ := at_Loss (Kd.C_below gr BW.out) k hlt
      subst e1
      subst e2
      have hx := HX.out (xs.getD k zLoss) (getD_mem xs zLoss hlt)
      generalize xs.getD k zLoss = y at hx p0 r0 p1 r1 p2 r2
      have hcall := eqLoss_any y   wr.drew hx  
      have BD : Aside0 (Below w.heap.size w wr.drew) := ⟨bel_then BW.out (drew_below wr)⟩
      clear hx 
      go_wp2
      go_still_tail 8, (by kernel_rfl)
      change wpList _ _ _ _ _ wr.drew
      generalize wr.drew = wd at BD hcall
      clear BW
      go_wp2_with (go_at_call 137; refine hcall.mono ?_; rintro e w1 ⟨rfl, hb1⟩)
      go_roundg (xs.length - (k + 1))
      case measure => omega
      case rel => exact ⟨k + 1, by omega, Nat.le_refl _, rfl, ⟨bel_then BD.out hb1⟩⟩
    · go_wp2
      go_ret
      exact ⟨rfl, BW.out⟩
set_option maxRecDepth 100000 in
set_option maxHeartbeats 1000000 in
theorem eqHost_any (x : SHost) (A0 : Option Addr) (c0 : Nat) (A1 : Option Addr) (c1 : Nat) (A2 : Option Addr) (c2 : Nat) (A3 : Option Addr) (c3 : Nat) (A4 : Option Addr) (c4 : Nat) (B0 : Option Addr) (d0 : Nat) (B1 : Option Addr) (d1 : Nat) (B2 : Option Addr) (d2 : Nat) (B3 : Option Addr) (d3 : Nat) (B4 : Option Addr) (d4 : Nat) (w : World) (hw : fitHost x) (hr0 : Kd.C Kd.string w A0 x.f0.f1.length x.f0.f1) (hr1 : Kd.C kWay w A1 x.f0.f2.length x.f0.f2) (hr2 : Kd.C kItem w A2 x.f1.f1.length x.f1.f1) (hr3 : Kd.C kBox w A3 x.f2.length x.f2) (hr4 : Kd.C kLoss w A4 x.f3.length x.f3) (gr0 : Kd.C Kd.string w B0 x.f0.f1.length x.f0.f1) (gr1 : Kd.C kWay w B1 x.f0.f2.length x.f0.f2) (gr2 : Kd.C kItem w B2 x.f1.f1.length x.f1.f1) (gr3 : Kd.C kBox w B3 x.f2.length x.f2) (gr4 : Kd.C kLoss w B4 x.f3.length x.f3) :
    Calls Tryz.prog 28 #[.agg #[.string x.f0.f0, .slice A0 x.f0.f1.length c0, .slice A1 x.f0.f2.length c1, .int .i64 x.f1.f0, .slice A2 x.f1.f1.length c2, .slice A3 x.f2.length c3, .slice A4 x.f3.length c4], .agg #[.string x.f0.f0, .slice B0 x.f0.f1.length d0, .slice B1 x.f0.f2.length d1, .int .i64 x.f1.f0, .slice B2 x.f1.f1.length d2, .slice B3 x.f2.length d3, .slice B4 x.f3.length d4]] w fun e w' => e = .returned (.bool true) ∧ Below w.heap.size w w' := by
  unfold fitHost at hw
  obtain ⟨hw_0, hw_1, hw_2, hw_3⟩ := hw
  have hc_0 := fun (W : World) (hW : Below w.heap.size w W) => eqConf_any x.f0 A0 c0 A1 c1 B0 d0 B1 d1 W hw_0 (Kd.C_below hr0 hW) (Kd.C_below hr1 hW) (Kd.C_below gr0 hW) (Kd.C_below gr1 hW)
  have hc_1 := fun (W : World) (hW : Below w.heap.size w W) => eqSpool_any x.f1 A2 c2 B2 d2 W hw_1 (Kd.C_below hr2 hW) (Kd.C_below gr2 hW)
  have hc_2 := fun (W : World) (hW : Below w.heap.size w W) => eqBoxS_any A3 c3 B3 d3 x.f2 W hw_2 (Kd.C_below hr3 hW) (Kd.C_below gr3 hW)
  have hc_3 := fun (W : World) (hW : Below w.heap.size w W) => eqLossS_any A4 c4 B4 d4 x.f3 W hw_3 (Kd.C_below hr4 hW) (Kd.C_below gr4 hW)
  clear hw_0 hw_1 hw_2 hw_3 hr0 gr0 hr1 gr1 hr2 gr2 hr3 gr3 hr4 gr4
  have B0 := Below.refl w.heap.size w
  go_enter Tryz.func28, Tryz.ntmps28
  go_wp2_with fail
  refine (hc_0 _ (by (with_reducible repeat (first | exact B0 | refine bel_alloc ?_ _ | refine bel_set ?_ _ ?_)); all_goals (first | (simp; done) | (simp; omega) | omega))).mono ?_
  rintro e w0 ⟨rfl, b0⟩
  have B1 : Below w.heap.size w w0 := bel_then (by (with_reducible repeat (first | exact B0 | refine bel_alloc ?_ _ | refine bel_set ?_ _ ?_)); all_goals (first | (simp; done) | (simp; omega) | omega)) b0
  obtain ⟨q0, p0⟩ := bcell b0
  have z0 : w.heap.size + 1 < w0.heap.size := by have := b0.size; (try simp at this); omega
  have x0 : w.heap.size < w0.heap.size := by omega
  clear b0 hc_0
  go_wp2_with fail
  refine (hc_1 _ (by (with_reducible repeat (first | exact B1 | refine bel_alloc ?_ _ | refine bel_set ?_ _ ?_)); all_goals (first | (simp; done) | (simp; omega) | omega))).mono ?_
  rintro e w1 ⟨rfl, b1⟩
  have B2 : Below w.heap.size w w1 := bel_then (by (with_reducible repeat (first | exact B1 | refine bel_alloc ?_ _ | refine bel_set ?_ _ ?_)); all_goals (first | (simp; done) | (simp; omega) | omega)) b1
  obtain ⟨q1, p1⟩ := bcell b1
  have z1 : w.heap.size + 1 < w1.heap.size := by have := b1.size; (try simp at this); omega
  have x1 : w.heap.size < w1.heap.size := by omega
  clear b1 hc_1
  go_wp2_with fail
  refine (hc_2 _ (by (with_reducible repeat (first | exact B2 | refine bel_alloc ?_ _ | refine bel_set ?_ _ ?_)); all_goals (first | (simp; done) | (simp; omega) | omega))).mono ?_
  rintro e w2 ⟨rfl, b2⟩
  have B3 : Below w.heap.size w w2 := bel_then (by (with_reducible repeat (first | exact B2 | refine bel_alloc ?_ _ | refine bel_set ?_ _ ?_)); all_goals (first | (simp; done) | (simp; omega) | omega)) b2
  obtain ⟨q2, p2⟩ := bcell b2
  have z2 : w.heap.size + 1 < w2.heap.size := by have := b2.size; (try simp at this); omega
  have x2 : w.heap.size < w2.heap.size := by omega
  clear b2 hc_2
  go_wp2_with fail
  refine (hc_3 _ (by (with_reducible repeat (first | exact B3 | refine bel_alloc ?_ _ | refine bel_set ?_ _ ?_)); all_goals (first | (simp; done) | (simp; omega) | omega))).mono ?_
  rintro e w3 ⟨rfl, b3⟩
  have B4 : Below w.heap.size w w3 := bel_then (by (with_reducible repeat (first | exact B3 | refine bel_alloc ?_ _ | refine bel_set ?_ _ ?_)); all_goals (first | (simp; done) | (simp; omega) | omega)) b3
  obtain ⟨q3, p3⟩ := bcell b3
  have z3 : w.heap.size + 1 < w3.heap.size := by have := b3.size; (try simp at this); omega
  have x3 : w.heap.size < w3.heap.size := by omega
  clear b3 hc_3
  go_wp2
  go_ret
  exact ⟨rfl, by (with_reducible repeat (first | exact B4 | refine bel_alloc ?_ _ | refine bel_set ?_ _ ?_)); all_goals (first | (simp; done) | (simp; omega) | omega)⟩
end Go.Proofs.YtejiifmopopflaaGreatDoor
