/- The laws' comparisons, of the same twice: contracts. -/
import Derived.Test.YticepbgacokbbaaGreatDoorKit0
import Derived.StillTailTactics
namespace Go.Proofs.YticepbgacokbbaaGreatDoor
open Go.RowKit Go.Proofs.YticepbgacokbbaaGreatDoorW.PrintWords
set_option linter.unusedVariables false
set_option linter.unusedSimpArgs false

theorem drew_below (w : World) : Below w.heap.size w w.drew := ⟨rfl, rfl, rfl, Nat.le_refl _, fun _ _ => rfl⟩
set_option maxRecDepth 100000 in
set_option maxHeartbeats 1000000 in
theorem eqAddr_any (x : SAddr)   (w : World) (hw : fitAddr x)   :
  Calls Tryz.prog 51 #[.agg #[.string x.f0, .string x.f1], .agg #[.string x.f0, .string x.f1]] w fun e w' => e = .returned (.bool true) ∧ Below w.heap.size w w' := by
 unfold fitAddr at hw
 obtain ⟨hw_0, hw_1⟩ := hw
 clear hw_0 hw_1
 have B0 := Below.refl w.heap.size w
 go_enter Tryz.func51, Tryz.ntmps51
 go_wp2
 go_ret
 exact ⟨rfl, by (with_reducible repeat (first | exact B0 | refine bel_alloc ?_ _ | refine bel_set ?_ _ ?_)); all_goals (first | (simp; done) | (simp; omega) | omega)⟩
set_option maxRecDepth 100000 in
set_option maxHeartbeats 1000000 in
theorem eqStringS_any (A : Option Addr) (c : Nat) (B : Option Addr) (d : Nat) (xs : List ByteArray) (w : World) (hw : (xs.length ≤ 1048576 ∧ ∀ y ∈ xs, y.size ≤ 1048576)) (hr : Kd.C Kd.string w A xs.length xs) (gr : Kd.C Kd.string w B xs.length xs) :
  Calls Tryz.prog 53 #[.slice A xs.length c, .slice B xs.length d] w fun e w' => e = .returned (.bool true) ∧ Below w.heap.size w w' := by
 obtain ⟨hwl, hwx⟩ := hw
 have HX := Lib.hid hwx
 clear hwx
 go_enter Tryz.func53, Tryz.ntmps53
 go_wp2
 go_loopg [5] (xs.length) (fun g v wr => ∃ k : Nat, k ≤ xs.length ∧ xs.length - k ≤ g ∧ v = .int .i64 k ∧ Aside0 (Below w.heap.size w wr))
 case atStart => exact ⟨0, Nat.zero_le _, by omega, rfl, ⟨Below.refl _ _⟩⟩
 case round =>
  obtain ⟨k, hk, hg, rfl, BW⟩ := hrel
  by_cases hlt : k < xs.length
  ·obtain ⟨ad, e1, p0⟩ := at_Str (Kd.C_below hr BW.out) k hlt
   obtain ⟨ae, e2, r0⟩ := at_Str (Kd.C_below gr BW.out) k hlt
   subst e1
   subst e2
   have hx := HX.out (xs.getD k (⟨#[]⟩ : ByteArray)) (getD_mem xs (⟨#[]⟩ : ByteArray) hlt)
   generalize xs.getD k (⟨#[]⟩ : ByteArray) = y at hx p0 r0
   have hyy : (y.toList == y.toList) = true := beq_self_eq_true _
   clear hx
   go_wp2
   repeat (go_quiet (fail); try go_wp2)
   go_roundg (xs.length - (k + 1))
   case measure => omega
   case rel => exact ⟨k + 1, by omega, Nat.le_refl _, rfl, ⟨by first | exact BW.out | exact ⟨BW.out.os, BW.out.tape, BW.out.output, BW.out.size, BW.out.block⟩⟩⟩
  ·go_wp2
   go_ret
   exact ⟨rfl, BW.out⟩
set_option maxRecDepth 100000 in
set_option maxHeartbeats 1000000 in
theorem eqAddrS_any (A : Option Addr) (c : Nat) (B : Option Addr) (d : Nat) (xs : List SAddr) (w : World) (hw : (xs.length ≤ 1048576 ∧ ∀ y ∈ xs, fitAddr y)) (hr : Kd.C kAddr w A xs.length xs) (gr : Kd.C kAddr w B xs.length xs) :
  Calls Tryz.prog 52 #[.slice A xs.length c, .slice B xs.length d] w fun e w' => e = .returned (.bool true) ∧ Below w.heap.size w w' := by
 obtain ⟨hwl, hwx⟩ := hw
 have HX := Lib.hid hwx
 clear hwx
 go_enter Tryz.func52, Tryz.ntmps52
 go_wp2
 go_loopg [5] (xs.length) (fun g v wr => ∃ k : Nat, k ≤ xs.length ∧ xs.length - k ≤ g ∧ v = .int .i64 k ∧ Aside0 (Below w.heap.size w wr))
 case atStart => exact ⟨0, Nat.zero_le _, by omega, rfl, ⟨Below.refl _ _⟩⟩
 case round =>
  obtain ⟨k, hk, hg, rfl, BW⟩ := hrel
  by_cases hlt : k < xs.length
  ·obtain ⟨ad, e1, p0, p1⟩ := at_Addr (Kd.C_below hr BW.out) k hlt
   obtain ⟨ae, e2, r0, r1⟩ := at_Addr (Kd.C_below gr BW.out) k hlt
   subst e1
   subst e2
   have hx := HX.out (xs.getD k zAddr) (getD_mem xs zAddr hlt)
   generalize xs.getD k zAddr = y at hx p0 r0 p1 r1
   have hcall := eqAddr_any y   wr.drew hx  
   have BD : Aside0 (Below w.heap.size w wr.drew) := ⟨bel_then BW.out (drew_below wr)⟩
   clear hx 
   go_wp2
   go_still_tail 8, (by kernel_rfl)
   change wpList _ _ _ _ _ wr.drew
   generalize wr.drew = wd at BD hcall
   clear BW
   go_wp2_with (go_at_call 51; refine hcall.mono ?_; rintro e w1 ⟨rfl, hb1⟩)
   go_roundg (xs.length - (k + 1))
   case measure => omega
   case rel => exact ⟨k + 1, by omega, Nat.le_refl _, rfl, ⟨bel_then BD.out hb1⟩⟩
  ·go_wp2
   go_ret
   exact ⟨rfl, BW.out⟩
set_option maxRecDepth 100000 in
set_option maxHeartbeats 1000000 in
theorem eqAlias_any (x : SAlias) (A0 : Option Addr) (c0 : Nat) (B0 : Option Addr) (d0 : Nat) (w : World) (hw : fitAlias x) (hr0 : Kd.C kAddr w A0 x.f1.length x.f1) (gr0 : Kd.C kAddr w B0 x.f1.length x.f1) :
  Calls Tryz.prog 54 #[.agg #[.string x.f0.f0, .string x.f0.f1, .slice A0 x.f1.length c0], .agg #[.string x.f0.f0, .string x.f0.f1, .slice B0 x.f1.length d0]] w fun e w' => e = .returned (.bool true) ∧ Below w.heap.size w w' := by
 unfold fitAlias at hw
 obtain ⟨hw_0, hw_1⟩ := hw
 have hc_0 := fun (W : World) (hW : Below w.heap.size w W) => eqAddr_any x.f0   W hw_0  
 have hc_1 := fun (W : World) (hW : Below w.heap.size w W) => eqAddrS_any A0 c0 B0 d0 x.f1 W hw_1 (Kd.C_below hr0 hW) (Kd.C_below gr0 hW)
 clear hw_0 hw_1 hr0 gr0
 have B0 := Below.refl w.heap.size w
 go_enter Tryz.func54, Tryz.ntmps54
 go_wp2_with fail
 refine (hc_0 _ (by (with_reducible repeat (first | exact B0 | refine bel_alloc ?_ _ | refine bel_set ?_ _ ?_)); all_goals (first | (simp; done) | (simp; omega) | omega))).mono ?_
 rintro e w0 ⟨rfl, b0⟩
 have B1 : Below w.heap.size w w0 := bel_then (by (with_reducible repeat (first | exact B0 | refine bel_alloc ?_ _ | refine bel_set ?_ _ ?_)); all_goals (first | (simp; done) | (simp; omega) | omega)) b0
 obtain ⟨q0, p0⟩ := bcell b0
 have z0 : w.heap.size + 1 < w0.heap.size := by have := b0.size; (try simp at this); omega
 have x0 : w.heap.size < w0.heap.size := by omega
 clear b0 hc_0
 go_wp2_with fail
 refine (hc_1 _ (by (with_reducible repeat (first | exact B1 | refine bel_alloc ?_ _ | refine bel_set ?_ _ ?_)); all_goals (first | (simp; done) | (simp; omega) | omega))).mono ?_
 rintro e w1 ⟨rfl, b1⟩
 have B2 : Below w.heap.size w w1 := bel_then (by (with_reducible repeat (first | exact B1 | refine bel_alloc ?_ _ | refine bel_set ?_ _ ?_)); all_goals (first | (simp; done) | (simp; omega) | omega)) b1
 obtain ⟨q1, p1⟩ := bcell b1
 have z1 : w.heap.size + 1 < w1.heap.size := by have := b1.size; (try simp at this); omega
 have x1 : w.heap.size < w1.heap.size := by omega
 clear b1 hc_1
 go_wp2
 go_ret
 exact ⟨rfl, by (with_reducible repeat (first | exact B2 | refine bel_alloc ?_ _ | refine bel_set ?_ _ ?_)); all_goals (first | (simp; done) | (simp; omega) | omega)⟩
set_option maxRecDepth 100000 in
set_option maxHeartbeats 1000000 in
theorem eqAliasS_any (A : Option Addr) (c : Nat) (B : Option Addr) (d : Nat) (xs : List SAlias) (w : World) (hw : (xs.length ≤ 1048576 ∧ ∀ y ∈ xs, fitAlias y)) (hr : Kd.C kAlias w A xs.length xs) (gr : Kd.C kAlias w B xs.length xs) :
  Calls Tryz.prog 17 #[.slice A xs.length c, .slice B xs.length d] w fun e w' => e = .returned (.bool true) ∧ Below w.heap.size w w' := by
 obtain ⟨hwl, hwx⟩ := hw
 have HX := Lib.hid hwx
 clear hwx
 go_enter Tryz.func17, Tryz.ntmps17
 go_wp2
 go_loopg [5] (xs.length) (fun g v wr => ∃ k : Nat, k ≤ xs.length ∧ xs.length - k ≤ g ∧ v = .int .i64 k ∧ Aside0 (Below w.heap.size w wr))
 case atStart => exact ⟨0, Nat.zero_le _, by omega, rfl, ⟨Below.refl _ _⟩⟩
 case round =>
  obtain ⟨k, hk, hg, rfl, BW⟩ := hrel
  by_cases hlt : k < xs.length
  ·obtain ⟨ad, A0, c0, e1, p0, p1, p2, l0, q0⟩ := at_Alias (Kd.C_below hr BW.out) k hlt
   obtain ⟨ae, B0, d0, e2, r0, r1, r2, m0, s0⟩ := at_Alias (Kd.C_below gr BW.out) k hlt
   subst e1
   subst e2
   have hx := HX.out (xs.getD k zAlias) (getD_mem xs zAlias hlt)
   generalize xs.getD k zAlias = y at hx p0 r0 p1 r1 p2 r2 q0 l0 s0 m0
   have hcall := eqAlias_any y A0 c0 B0 d0 wr.drew hx (Kd.C_below q0 (drew_below wr)) (Kd.C_below s0 (drew_below wr))
   have BD : Aside0 (Below w.heap.size w wr.drew) := ⟨bel_then BW.out (drew_below wr)⟩
   clear hx q0 s0
   go_wp2
   go_still_tail 8, (by kernel_rfl)
   change wpList _ _ _ _ _ wr.drew
   generalize wr.drew = wd at BD hcall
   clear BW
   go_wp2_with (go_at_call 54; refine hcall.mono ?_; rintro e w1 ⟨rfl, hb1⟩)
   go_roundg (xs.length - (k + 1))
   case measure => omega
   case rel => exact ⟨k + 1, by omega, Nat.le_refl _, rfl, ⟨bel_then BD.out hb1⟩⟩
  ·go_wp2
   go_ret
   exact ⟨rfl, BW.out⟩
set_option maxRecDepth 100000 in
set_option maxHeartbeats 1000000 in
theorem eqMail_any (x : SMail) (A0 : Option Addr) (c0 : Nat) (A1 : Option Addr) (c1 : Nat) (B0 : Option Addr) (d0 : Nat) (B1 : Option Addr) (d1 : Nat) (w : World) (hw : fitMail x) (hr0 : Kd.C kAddr w A0 x.f1.length x.f1) (hr1 : Kd.C Kd.string w A1 x.f2.length x.f2) (gr0 : Kd.C kAddr w B0 x.f1.length x.f1) (gr1 : Kd.C Kd.string w B1 x.f2.length x.f2) :
  Calls Tryz.prog 16 #[.agg #[.string x.f0.f0, .string x.f0.f1, .slice A0 x.f1.length c0, .slice A1 x.f2.length c1], .agg #[.string x.f0.f0, .string x.f0.f1, .slice B0 x.f1.length d0, .slice B1 x.f2.length d1]] w fun e w' => e = .returned (.bool true) ∧ Below w.heap.size w w' := by
 unfold fitMail at hw
 obtain ⟨hw_0, hw_1, hw_2⟩ := hw
 have hc_0 := fun (W : World) (hW : Below w.heap.size w W) => eqAddr_any x.f0   W hw_0  
 have hc_1 := fun (W : World) (hW : Below w.heap.size w W) => eqAddrS_any A0 c0 B0 d0 x.f1 W hw_1 (Kd.C_below hr0 hW) (Kd.C_below gr0 hW)
 have hc_2 := fun (W : World) (hW : Below w.heap.size w W) => eqStringS_any A1 c1 B1 d1 x.f2 W hw_2 (Kd.C_below hr1 hW) (Kd.C_below gr1 hW)
 clear hw_0 hw_1 hw_2 hr0 gr0 hr1 gr1
 have B0 := Below.refl w.heap.size w
 go_enter Tryz.func16, Tryz.ntmps16
 go_wp2_with fail
 refine (hc_0 _ (by (with_reducible repeat (first | exact B0 | refine bel_alloc ?_ _ | refine bel_set ?_ _ ?_)); all_goals (first | (simp; done) | (simp; omega) | omega))).mono ?_
 rintro e w0 ⟨rfl, b0⟩
 have B1 : Below w.heap.size w w0 := bel_then (by (with_reducible repeat (first | exact B0 | refine bel_alloc ?_ _ | refine bel_set ?_ _ ?_)); all_goals (first | (simp; done) | (simp; omega) | omega)) b0
 obtain ⟨q0, p0⟩ := bcell b0
 have z0 : w.heap.size + 1 < w0.heap.size := by have := b0.size; (try simp at this); omega
 have x0 : w.heap.size < w0.heap.size := by omega
 clear b0 hc_0
 go_wp2_with fail
 refine (hc_1 _ (by (with_reducible repeat (first | exact B1 | refine bel_alloc ?_ _ | refine bel_set ?_ _ ?_)); all_goals (first | (simp; done) | (simp; omega) | omega))).mono ?_
 rintro e w1 ⟨rfl, b1⟩
 have B2 : Below w.heap.size w w1 := bel_then (by (with_reducible repeat (first | exact B1 | refine bel_alloc ?_ _ | refine bel_set ?_ _ ?_)); all_goals (first | (simp; done) | (simp; omega) | omega)) b1
 obtain ⟨q1, p1⟩ := bcell b1
 have z1 : w.heap.size + 1 < w1.heap.size := by have := b1.size; (try simp at this); omega
 have x1 : w.heap.size < w1.heap.size := by omega
 clear b1 hc_1
 go_wp2_with fail
 refine (hc_2 _ (by (with_reducible repeat (first | exact B2 | refine bel_alloc ?_ _ | refine bel_set ?_ _ ?_)); all_goals (first | (simp; done) | (simp; omega) | omega))).mono ?_
 rintro e w2 ⟨rfl, b2⟩
 have B3 : Below w.heap.size w w2 := bel_then (by (with_reducible repeat (first | exact B2 | refine bel_alloc ?_ _ | refine bel_set ?_ _ ?_)); all_goals (first | (simp; done) | (simp; omega) | omega)) b2
 obtain ⟨q2, p2⟩ := bcell b2
 have z2 : w.heap.size + 1 < w2.heap.size := by have := b2.size; (try simp at this); omega
 have x2 : w.heap.size < w2.heap.size := by omega
 clear b2 hc_2
 go_wp2
 go_ret
 exact ⟨rfl, by (with_reducible repeat (first | exact B3 | refine bel_alloc ?_ _ | refine bel_set ?_ _ ?_)); all_goals (first | (simp; done) | (simp; omega) | omega)⟩
end Go.Proofs.YticepbgacokbbaaGreatDoor
