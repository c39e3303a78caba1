/- The laws' marks of a host that keeps nothing, looks at them, comparisons: contracts. -/
import Derived.Test.YtejiifmopopflaaGreatDoorHeldN
import Derived.Test.YtejiifmopopflaaGreatDoorEq
namespace Go.Proofs.YtejiifmopopflaaGreatDoor
open Go.RowKit Go.Proofs.YtejiifmopopflaaGreatDoorW.PrintWords
set_option linter.unusedVariables false
set_option linter.unusedSimpArgs false

set_option maxRecDepth 100000 in
theorem markItemS0_any (A : Option Addr) (c : Nat) (a : Nat) (w : World) : Calls Tryz.prog 140 #[.slice A 0 c, .int .i64 (a : Int)] w fun e w' => e = .returned (.int .i64 (a : Int)) ∧ Below w.heap.size w w' := by
  go_enter Tryz.func140, Tryz.ntmps140
  go_wp2
  go_loopg [1, 5] 1 (fun g v1 v5 wr => v1 = .int .i64 (a : Int) ∧ v5 = .int .i64 0 ∧ Aside0 (Below w.heap.size w wr))
  case atStart => exact ⟨rfl, rfl, ⟨Below.refl _ _⟩⟩
  case round =>
    obtain ⟨rfl, rfl, BW⟩ := hrel
    go_wp2
    go_ret
    exact ⟨rfl, BW.out⟩


set_option maxRecDepth 100000 in
theorem markBoxS0_any (A : Option Addr) (c : Nat) (a : Nat) (w : World) : Calls Tryz.prog 77 #[.slice A 0 c, .int .i64 (a : Int)] w fun e w' => e = .returned (.int .i64 (a : Int)) ∧ Below w.heap.size w w' := by
  go_enter Tryz.func77, Tryz.ntmps77
  go_wp2
  go_loopg [1, 5] 1 (fun g v1 v5 wr => v1 = .int .i64 (a : Int) ∧ v5 = .int .i64 0 ∧ Aside0 (Below w.heap.size w wr))
  case atStart => exact ⟨rfl, rfl, ⟨Below.refl _ _⟩⟩
  case round =>
    obtain ⟨rfl, rfl, BW⟩ := hrel
    go_wp2
    go_ret
    exact ⟨rfl, BW.out⟩


set_option maxRecDepth 100000 in
theorem markLossS0_any (A : Option Addr) (c : Nat) (a : Nat) (w : World) : Calls Tryz.prog 78 #[.slice A 0 c, .int .i64 (a : Int)] w fun e w' => e = .returned (.int .i64 (a : Int)) ∧ Below w.heap.size w w' := by
  go_enter Tryz.func78, Tryz.ntmps78
  go_wp2
  go_loopg [1, 5] 1 (fun g v1 v5 wr => v1 = .int .i64 (a : Int) ∧ v5 = .int .i64 0 ∧ Aside0 (Below w.heap.size w wr))
  case atStart => exact ⟨rfl, rfl, ⟨Below.refl _ _⟩⟩
  case round =>
    obtain ⟨rfl, rfl, BW⟩ := hrel
    go_wp2
    go_ret
    exact ⟨rfl, BW.out⟩


set_option maxRecDepth 100000 in
theorem markSpool0_any (l : Int) (A : Option Addr) (c : Nat) (a : Nat) (w : World) : Calls Tryz.prog 76 #[.agg #[.int .i64 l, .slice A 0 c], .int .i64 (a : Int)] w fun e w' => e = .returned (.int .i64 (a : Int)) ∧ Below w.heap.size w w' := by
  have h1 := fun W (_ : Below w.heap.size w W) => markItemS0_any A c a W
  have B0 := Below.refl w.heap.size w
  go_enter Tryz.func76, Tryz.ntmps76
  go_wp2_with (go_at_call 140; refine (h1 _ (by (with_reducible repeat (first | exact B0 | refine bel_alloc ?_ _ | refine bel_set ?_ _ ?_ | refine blw_drewN ?_ _ | refine Below.drew ?_)); all_goals (first | (simp; done) | (simp; omega) | omega))).mono ?_; rintro e w1 ⟨rfl, b1⟩; have B1 : Below w.heap.size w w1 := bel_then (by (with_reducible repeat (first | exact B0 | refine bel_alloc ?_ _ | refine bel_set ?_ _ ?_ | refine blw_drewN ?_ _ | refine Below.drew ?_)); all_goals (first | (simp; done) | (simp; omega) | omega)) b1; clear b1)
  go_ret
  exact ⟨rfl, B1⟩


set_option maxRecDepth 100000 in
theorem heldItemS0_any (A : Option Addr) (c : Nat) (a : Nat) (w : World) : Calls Tryz.prog 143 #[.slice A 0 c, .int .i64 (a : Int)] w fun e w' => e = .returned (.int .i64 (a : Int)) ∧ Below w.heap.size w w' := by
  go_enter Tryz.func143, Tryz.ntmps143
  go_wp2
  go_loopg [1, 5] 1 (fun g v1 v5 wr => v1 = .int .i64 (a : Int) ∧ v5 = .int .i64 0 ∧ Aside0 (Below w.heap.size w wr))
  case atStart => exact ⟨rfl, rfl, ⟨Below.refl _ _⟩⟩
  case round =>
    obtain ⟨rfl, rfl, BW⟩ := hrel
    go_wp2
    go_ret
    exact ⟨rfl, BW.out⟩


set_option maxRecDepth 100000 in
theorem heldBoxS0_any (A : Option Addr) (c : Nat) (a : Nat) (w : World) : Calls Tryz.prog 81 #[.slice A 0 c, .int .i64 (a : Int)] w fun e w' => e = .returned (.int .i64 (a : Int)) ∧ Below w.heap.size w w' := by
  go_enter Tryz.func81, Tryz.ntmps81
  go_wp2
  go_loopg [1, 5] 1 (fun g v1 v5 wr => v1 = .int .i64 (a : Int) ∧ v5 = .int .i64 0 ∧ Aside0 (Below w.heap.size w wr))
  case atStart => exact ⟨rfl, rfl, ⟨Below.refl _ _⟩⟩
  case round =>
    obtain ⟨rfl, rfl, BW⟩ := hrel
    go_wp2
    go_ret
    exact ⟨rfl, BW.out⟩


set_option maxRecDepth 100000 in
theorem heldLossS0_any (A : Option Addr) (c : Nat) (a : Nat) (w : World) : Calls Tryz.prog 82 #[.slice A 0 c, .int .i64 (a : Int)] w fun e w' => e = .returned (.int .i64 (a : Int)) ∧ Below w.heap.size w w' := by
  go_enter Tryz.func82, Tryz.ntmps82
  go_wp2
  go_loopg [1, 5] 1 (fun g v1 v5 wr => v1 = .int .i64 (a : Int) ∧ v5 = .int .i64 0 ∧ Aside0 (Below w.heap.size w wr))
  case atStart => exact ⟨rfl, rfl, ⟨Below.refl _ _⟩⟩
  case round =>
    obtain ⟨rfl, rfl, BW⟩ := hrel
    go_wp2
    go_ret
    exact ⟨rfl, BW.out⟩


set_option maxRecDepth 100000 in
theorem heldSpool0_any (l : Int) (A : Option Addr) (c : Nat) (a : Nat) (w : World) : Calls Tryz.prog 80 #[.agg #[.int .i64 l, .slice A 0 c], .int .i64 (a : Int)] w fun e w' => e = .returned (.int .i64 (a : Int)) ∧ Below w.heap.size w w' := by
  have h1 := fun W (_ : Below w.heap.size w W) => heldItemS0_any A c a W
  have B0 := Below.refl w.heap.size w
  go_enter Tryz.func80, Tryz.ntmps80
  go_wp2_with (go_at_call 143; refine (h1 _ (by (with_reducible repeat (first | exact B0 | refine bel_alloc ?_ _ | refine bel_set ?_ _ ?_ | refine blw_drewN ?_ _ | refine Below.drew ?_)); all_goals (first | (simp; done) | (simp; omega) | omega))).mono ?_; rintro e w1 ⟨rfl, b1⟩; have B1 : Below w.heap.size w w1 := bel_then (by (with_reducible repeat (first | exact B0 | refine bel_alloc ?_ _ | refine bel_set ?_ _ ?_ | refine blw_drewN ?_ _ | refine Below.drew ?_)); all_goals (first | (simp; done) | (simp; omega) | omega)) b1; clear b1)
  go_ret
  exact ⟨rfl, B1⟩

set_option maxRecDepth 100000 in
set_option maxHeartbeats 4000000 in
theorem markHost1_any (x : SConf) (A0 : Option Addr) (c0 : Nat) (A1 : Option Addr) (c1 : Nat) (a : Nat) (base : Nat) (ok : Nat → Prop) (w : World) (hw : fitConf x) (hr0 : Kd.R Kd.string 9 w base ok (.slice A0 x.f1.length c0) x.f1) (hr1 : Kd.R kWay 136 w base ok (.slice A1 x.f2.length c1) x.f2) (ha : a ≤ 1099511627776) :
    Calls Tryz.prog 31 #[.agg #[.string x.f0, .slice A0 x.f1.length c0, .slice A1 x.f2.length c1, .int .i64 0, .slice none 0 0, .slice none 0 0, .slice none 0 0], .int .i64 (a : Int)] w fun e w' => e = .returned (.int .i64 ((a + 1 * x.f1.length + 2 * x.f2.length : Nat) : Int)) ∧ a + 1 * x.f1.length + 2 * x.f2.length ≤ a + 35184372088832 ∧ Kd.R Kd.string 9 w' base ok (.slice A0 x.f1.length c0) (mksString a x.f1.length) ∧ Kd.R kWay 136 w' base ok (.slice A1 x.f2.length c1) (mksWay (a + 1 * x.f1.length) x.f2.length) ∧ Tch ok w w' := by
  have hl := hw
  unfold fitConf at hl
  have G0 := Aside0.mk (Kd.R_alloc (Kd.R_mono (Kd.R_bound hr0) (ok' := (fun q => ok q ∧ q < w.heap.size)) (fun q hq => ⟨hq.1, hq.2.2.1⟩)) (.cells #[.string x.f0, .slice A0 x.f1.length c0, .slice A1 x.f2.length c1, .int .i64 0, .slice none 0 0, .slice none 0 0, .slice none 0 0] 71))
  clear hr0
  have G1 := Aside0.mk (Kd.R_alloc (Kd.R_mono (Kd.R_bound hr1) (ok' := (fun q => ok q ∧ q < w.heap.size)) (fun q hq => ⟨hq.1, hq.2.2.1⟩)) (.cells #[.string x.f0, .slice A0 x.f1.length c0, .slice A1 x.f2.length c1, .int .i64 0, .slice none 0 0, .slice none 0 0, .slice none 0 0] 71))
  clear hr1
  have T0 : Aside0 (Tch (fun q => ok q ∧ q < w.heap.size) w (w.alloc (.cells #[.string x.f0, .slice A0 x.f1.length c0, .slice A1 x.f2.length c1, .int .i64 0, .slice none 0 0, .slice none 0 0, .slice none 0 0] 71))) := ⟨(Tch.refl _ _).below ((Below.refl _ _).alloc (Nat.le_refl _) _)⟩
  have hz0 : w.heap.size < (w.alloc (.cells #[.string x.f0, .slice A0 x.f1.length c0, .slice A1 x.f2.length c1, .int .i64 0, .slice none 0 0, .slice none 0 0, .slice none 0 0] 71)).heap.size := by simp
  have x0_0 : (w.alloc (.cells #[.string x.f0, .slice A0 x.f1.length c0, .slice A1 x.f2.length c1, .int .i64 0, .slice none 0 0, .slice none 0 0, .slice none 0 0] 71)).cell? ⟨w.heap.size, 0, none⟩ = some (.string x.f0) := by simp
  have x0_1 : (w.alloc (.cells #[.string x.f0, .slice A0 x.f1.length c0, .slice A1 x.f2.length c1, .int .i64 0, .slice none 0 0, .slice none 0 0, .slice none 0 0] 71)).cell? ⟨w.heap.size, 1, none⟩ = some (.slice A0 x.f1.length c0) := by simp
  have x0_2 : (w.alloc (.cells #[.string x.f0, .slice A0 x.f1.length c0, .slice A1 x.f2.length c1, .int .i64 0, .slice none 0 0, .slice none 0 0, .slice none 0 0] 71)).cell? ⟨w.heap.size, 2, none⟩ = some (.slice A1 x.f2.length c1) := by simp
  have x0_3 : (w.alloc (.cells #[.string x.f0, .slice A0 x.f1.length c0, .slice A1 x.f2.length c1, .int .i64 0, .slice none 0 0, .slice none 0 0, .slice none 0 0] 71)).cell? ⟨w.heap.size, 3, none⟩ = some (.int .i64 0) := by simp
  have x0_4 : (w.alloc (.cells #[.string x.f0, .slice A0 x.f1.length c0, .slice A1 x.f2.length c1, .int .i64 0, .slice none 0 0, .slice none 0 0, .slice none 0 0] 71)).cell? ⟨w.heap.size, 4, none⟩ = some (.slice none 0 0) := by simp
  have x0_5 : (w.alloc (.cells #[.string x.f0, .slice A0 x.f1.length c0, .slice A1 x.f2.length c1, .int .i64 0, .slice none 0 0, .slice none 0 0, .slice none 0 0] 71)).cell? ⟨w.heap.size, 5, none⟩ = some (.slice none 0 0) := by simp
  have x0_6 : (w.alloc (.cells #[.string x.f0, .slice A0 x.f1.length c0, .slice A1 x.f2.length c1, .int .i64 0, .slice none 0 0, .slice none 0 0, .slice none 0 0] 71)).cell? ⟨w.heap.size, 6, none⟩ = some (.slice none 0 0) := by simp
  go_enter Tryz.func31, Tryz.ntmps31
  go_wp2_with fail
  refine (calls_at (a := a) rfl (markConf_any x A0 c0 A1 c1 a base (fun q => ok q ∧ q < w.heap.size) _ hw G0.out G1.out (by omega))).mono ?_
  rintro e u0 ⟨rfl, le0, m0, m1, t0⟩
  have T1 := Aside0.mk (T0.out.trans t0)
  have x1_0 := (tch_cell t0 hz0 (fun h => Nat.lt_irrefl _ h.2) 0).trans x0_0
  have x1_1 := (tch_cell t0 hz0 (fun h => Nat.lt_irrefl _ h.2) 1).trans x0_1
  have x1_2 := (tch_cell t0 hz0 (fun h => Nat.lt_irrefl _ h.2) 2).trans x0_2
  have x1_3 := (tch_cell t0 hz0 (fun h => Nat.lt_irrefl _ h.2) 3).trans x0_3
  have x1_4 := (tch_cell t0 hz0 (fun h => Nat.lt_irrefl _ h.2) 4).trans x0_4
  have x1_5 := (tch_cell t0 hz0 (fun h => Nat.lt_irrefl _ h.2) 5).trans x0_5
  have x1_6 := (tch_cell t0 hz0 (fun h => Nat.lt_irrefl _ h.2) 6).trans x0_6
  have hz1 : w.heap.size < u0.heap.size := Nat.lt_of_lt_of_le hz0 t0.size
  replace G0 := Aside0.mk m0
  replace G1 := Aside0.mk m1
  clear m0 m1 t0 x0_0 x0_1 x0_2 x0_3 x0_4 x0_5 x0_6
  go_wp2_with fail
  refine (calls_at (a := a + 1 * x.f1.length + 2 * x.f2.length) (by omega) (markSpool0_any 0 none 0 _ _)).mono ?_
  rintro e u1 ⟨rfl, b1⟩
  replace G0 := Aside0.mk (Kd.R_below G0.out b1)
  replace G1 := Aside0.mk (Kd.R_below G1.out b1)
  have T2 := Aside0.mk (T1.out.below b1)
  have x2_0 := (b1.cell (p := ⟨w.heap.size, 0, none⟩) hz1).trans x1_0
  have x2_1 := (b1.cell (p := ⟨w.heap.size, 1, none⟩) hz1).trans x1_1
  have x2_2 := (b1.cell (p := ⟨w.heap.size, 2, none⟩) hz1).trans x1_2
  have x2_3 := (b1.cell (p := ⟨w.heap.size, 3, none⟩) hz1).trans x1_3
  have x2_4 := (b1.cell (p := ⟨w.heap.size, 4, none⟩) hz1).trans x1_4
  have x2_5 := (b1.cell (p := ⟨w.heap.size, 5, none⟩) hz1).trans x1_5
  have x2_6 := (b1.cell (p := ⟨w.heap.size, 6, none⟩) hz1).trans x1_6
  have hz2 : w.heap.size < u1.heap.size := Nat.lt_of_lt_of_le hz1 b1.size
  clear b1 x1_0 x1_1 x1_2 x1_3 x1_4 x1_5 x1_6
  go_wp2_with fail
  refine (calls_at (a := a + 1 * x.f1.length + 2 * x.f2.length) (by omega) (markBoxS0_any none 0 _ _)).mono ?_
  rintro e u2 ⟨rfl, b2⟩
  replace G0 := Aside0.mk (Kd.R_below G0.out b2)
  replace G1 := Aside0.mk (Kd.R_below G1.out b2)
  have T3 := Aside0.mk (T2.out.below b2)
  have x3_0 := (b2.cell (p := ⟨w.heap.size, 0, none⟩) hz2).trans x2_0
  have x3_1 := (b2.cell (p := ⟨w.heap.size, 1, none⟩) hz2).trans x2_1
  have x3_2 := (b2.cell (p := ⟨w.heap.size, 2, none⟩) hz2).trans x2_2
  have x3_3 := (b2.cell (p := ⟨w.heap.size, 3, none⟩) hz2).trans x2_3
  have x3_4 := (b2.cell (p := ⟨w.heap.size, 4, none⟩) hz2).trans x2_4
  have x3_5 := (b2.cell (p := ⟨w.heap.size, 5, none⟩) hz2).trans x2_5
  have x3_6 := (b2.cell (p := ⟨w.heap.size, 6, none⟩) hz2).trans x2_6
  have hz3 : w.heap.size < u2.heap.size := Nat.lt_of_lt_of_le hz2 b2.size
  clear b2 x2_0 x2_1 x2_2 x2_3 x2_4 x2_5 x2_6
  go_wp2_with fail
  refine (calls_at (a := a + 1 * x.f1.length + 2 * x.f2.length) (by omega) (markLossS0_any none 0 _ _)).mono ?_
  rintro e u3 ⟨rfl, b3⟩
  replace G0 := Aside0.mk (Kd.R_below G0.out b3)
  replace G1 := Aside0.mk (Kd.R_below G1.out b3)
  have T4 := Aside0.mk (T3.out.below b3)
  have x4_0 := (b3.cell (p := ⟨w.heap.size, 0, none⟩) hz3).trans x3_0
  have x4_1 := (b3.cell (p := ⟨w.heap.size, 1, none⟩) hz3).trans x3_1
  have x4_2 := (b3.cell (p := ⟨w.heap.size, 2, none⟩) hz3).trans x3_2
  have x4_3 := (b3.cell (p := ⟨w.heap.size, 3, none⟩) hz3).trans x3_3
  have x4_4 := (b3.cell (p := ⟨w.heap.size, 4, none⟩) hz3).trans x3_4
  have x4_5 := (b3.cell (p := ⟨w.heap.size, 5, none⟩) hz3).trans x3_5
  have x4_6 := (b3.cell (p := ⟨w.heap.size, 6, none⟩) hz3).trans x3_6
  have hz4 : w.heap.size < u3.heap.size := Nat.lt_of_lt_of_le hz3 b3.size
  clear b3 x3_0 x3_1 x3_2 x3_3 x3_4 x3_5 x3_6
  go_wp2
  go_ret
  exact ⟨reti (by omega), by omega, Kd.R_mono G0.out (fun q hq => hq.1), Kd.R_mono G1.out (fun q hq => hq.1), T4.out.mono (fun q hq _ => hq.1)⟩
set_option maxRecDepth 100000 in
set_option maxHeartbeats 4000000 in
theorem heldHost1_any (x : SConf) (A0 : Option Addr) (c0 : Nat) (A1 : Option Addr) (c1 : Nat) (a : Nat) (w : World) (hl0 : x.f1.length ≤ 1048576) (hl1 : x.f2.length ≤ 1048576) (hr0 : Kd.C Kd.string w A0 x.f1.length (mksString a x.f1.length)) (hr1 : Kd.C kWay w A1 x.f2.length (mksWay (a + 1 * x.f1.length) x.f2.length)) (ha : a ≤ 1099511627776) :
    Calls Tryz.prog 32 #[.agg #[.string x.f0, .slice A0 x.f1.length c0, .slice A1 x.f2.length c1, .int .i64 0, .slice none 0 0, .slice none 0 0, .slice none 0 0], .int .i64 (a : Int)] w fun e w' => e = .returned (.int .i64 ((a + 1 * x.f1.length + 2 * x.f2.length : Nat) : Int)) ∧ Below w.heap.size w w' := by
  have hc_0 := fun (W : World) (hW : Below w.heap.size w W) => heldConf_any x A0 c0 A1 c1 a W hl0 hl1 (Kd.C_below hr0 hW) (Kd.C_below hr1 hW) (by omega)
  clear hr0 hr1
  have L0 := Below.refl w.heap.size w
  go_enter Tryz.func32, Tryz.ntmps32
  go_wp2_with fail
  refine (calls_at (a := a) rfl (hc_0 _ (by (with_reducible repeat (first | exact L0 | refine bel_alloc ?_ _ | refine bel_set ?_ _ ?_ | refine blw_drewN ?_ _ | refine Below.drew ?_)); all_goals (first | (simp; done) | (simp; omega) | omega)))).mono ?_
  rintro e w0 ⟨rfl, b0⟩
  have L1 : Below w.heap.size w w0 := bel_then (by (with_reducible repeat (first | exact L0 | refine bel_alloc ?_ _ | refine bel_set ?_ _ ?_ | refine blw_drewN ?_ _ | refine Below.drew ?_)); all_goals (first | (simp; done) | (simp; omega) | omega)) b0
  obtain ⟨q0, p0⟩ := bcell b0
  have z0 : w.heap.size < w0.heap.size := by have := b0.size; (try simp at this); omega
  clear b0
  go_wp2_with fail
  refine (calls_at (a := a + 1 * x.f1.length + 2 * x.f2.length) (by omega) (heldSpool0_any 0 none 0 _ _)).mono ?_
  rintro e w1 ⟨rfl, b1⟩
  have L2 : Below w.heap.size w w1 := bel_then (by (with_reducible repeat (first | exact L1 | refine bel_alloc ?_ _ | refine bel_set ?_ _ ?_ | refine blw_drewN ?_ _ | refine Below.drew ?_)); all_goals (first | (simp; done) | (simp; omega) | omega)) b1
  obtain ⟨q1, p1⟩ := bcell b1
  have z1 : w.heap.size < w1.heap.size := by have := b1.size; (try simp at this); omega
  clear b1
  go_wp2_with fail
  refine (calls_at (a := a + 1 * x.f1.length + 2 * x.f2.length) (by omega) (heldBoxS0_any none 0 _ _)).mono ?_
  rintro e w2 ⟨rfl, b2⟩
  have L3 : Below w.heap.size w w2 := bel_then (by (with_reducible repeat (first | exact L2 | refine bel_alloc ?_ _ | refine bel_set ?_ _ ?_ | refine blw_drewN ?_ _ | refine Below.drew ?_)); all_goals (first | (simp; done) | (simp; omega) | omega)) b2
  obtain ⟨q2, p2⟩ := bcell b2
  have z2 : w.heap.size < w2.heap.size := by have := b2.size; (try simp at this); omega
  clear b2
  go_wp2_with fail
  refine (calls_at (a := a + 1 * x.f1.length + 2 * x.f2.length) (by omega) (heldLossS0_any none 0 _ _)).mono ?_
  rintro e w3 ⟨rfl, b3⟩
  have L4 : Below w.heap.size w w3 := bel_then (by (with_reducible repeat (first | exact L3 | refine bel_alloc ?_ _ | refine bel_set ?_ _ ?_ | refine blw_drewN ?_ _ | refine Below.drew ?_)); all_goals (first | (simp; done) | (simp; omega) | omega)) b3
  obtain ⟨q3, p3⟩ := bcell b3
  have z3 : w.heap.size < w3.heap.size := by have := b3.size; (try simp at this); omega
  clear b3
  go_wp2
  go_ret
  exact ⟨reti (by omega), L4⟩
theorem eqHost1_any (x : SConf) (A0 : Option Addr) (c0 : Nat) (A1 : Option Addr) (c1 : Nat) (B0 : Option Addr) (d0 : Nat) (B1 : Option Addr) (d1 : Nat) (w : World) (hw : fitConf x) (hr0 : Kd.C Kd.string w A0 x.f1.length x.f1) (hr1 : Kd.C kWay w A1 x.f2.length x.f2) (gr0 : Kd.C Kd.string w B0 x.f1.length x.f1) (gr1 : Kd.C kWay w B1 x.f2.length x.f2) :
    Calls Tryz.prog 28 #[.agg #[.string x.f0, .slice A0 x.f1.length c0, .slice A1 x.f2.length c1, .int .i64 0, .slice none 0 0, .slice none 0 0, .slice none 0 0], .agg #[.string x.f0, .slice B0 x.f1.length d0, .slice B1 x.f2.length d1, .int .i64 0, .slice none 0 0, .slice none 0 0, .slice none 0 0]] w fun e w' => e = .returned (.bool true) ∧ Below w.heap.size w w' :=
  eqHost_any ⟨x, ⟨0, []⟩, [], []⟩ A0 c0 A1 c1 none 0 none 0 none 0 B0 d0 B1 d1 none 0 none 0 none 0 w ⟨hw, ⟨(show (Lit.int .i64 0).wf = true by decide), by simp, fun y hy => by cases hy⟩, ⟨by simp, fun y hy => by cases hy⟩, ⟨by simp, fun y hy => by cases hy⟩⟩ hr0 hr1 (Kd.C_nil _ _) (Kd.C_nil _ _) (Kd.C_nil _ _) gr0 gr1 (Kd.C_nil _ _) (Kd.C_nil _ _) (Kd.C_nil _ _)
end Go.Proofs.YtejiifmopopflaaGreatDoor
