/- The laws' marks of rows whose elements lead to rows, and of structs: contracts. -/
import Derived.Test.YtoppgnmnbbhghaaGreatDoorMark
namespace Go.Proofs.YtoppgnmnbbhghaaGreatDoor
open Go.RowKit Go.Proofs.YtoppgnmnbbhghaaGreatDoorW.PrintWords
set_option linter.unusedVariables false
set_option linter.unusedSimpArgs false


set_option maxRecDepth 100000 in
set_option maxHeartbeats 4000000 in
theorem markMail_any (x : SMail) (A0 : Option Addr) (c0 : Nat) (A1 : Option Addr) (c1 : Nat) (a : Nat) (base : Nat) (ok : Nat → Prop) (w : World) (hw : fitMail x) (hr0 : Kd.R kAddr 24 w base ok (.slice A0 x.f1.length c0) x.f1) (hr1 : Kd.R Kd.string 9 w base ok (.slice A1 x.f2.length c1) x.f2) (ha : a ≤ 1099511627776) :
    Calls Tryz.prog 71 #[.agg #[.string x.f0.f0, .string x.f0.f1, .slice A0 x.f1.length c0, .slice A1 x.f2.length c1], .int .i64 (a : Int)] w fun e w' => e = .returned (.int .i64 ((a + 2 * x.f1.length + 1 * x.f2.length : Nat) : Int)) ∧ a + 2 * x.f1.length + 1 * x.f2.length ≤ a + 35184372088832 ∧ Kd.R kAddr 24 w' base ok (.slice A0 x.f1.length c0) (mksAddr (a) x.f1.length) ∧ Kd.R Kd.string 9 w' base ok (.slice A1 x.f2.length c1) (mksString (a + 2 * x.f1.length) x.f2.length) ∧ Tch ok w w' := by
  unfold fitMail at hw
  obtain ⟨hw_0, hw_1, hw_2⟩ := hw
  have G0 := Aside0.mk (Kd.R_alloc (Kd.R_mono (Kd.R_bound hr0) (ok' := (fun q => ok q ∧ q < w.heap.size)) (fun q hq => ⟨hq.1, hq.2.2.1⟩)) (.cells #[.string x.f0.f0, .string x.f0.f1, .slice A0 x.f1.length c0, .slice A1 x.f2.length c1] 28))
  clear hr0
  have G1 := Aside0.mk (Kd.R_alloc (Kd.R_mono (Kd.R_bound hr1) (ok' := (fun q => ok q ∧ q < w.heap.size)) (fun q hq => ⟨hq.1, hq.2.2.1⟩)) (.cells #[.string x.f0.f0, .string x.f0.f1, .slice A0 x.f1.length c0, .slice A1 x.f2.length c1] 28))
  clear hr1
  have T0 : Aside0 (Tch (fun q => ok q ∧ q < w.heap.size) w (w.alloc (.cells #[.string x.f0.f0, .string x.f0.f1, .slice A0 x.f1.length c0, .slice A1 x.f2.length c1] 28))) := ⟨(Tch.refl _ _).below ((Below.refl _ _).alloc (Nat.le_refl _) _)⟩
  have hz0 : w.heap.size < (w.alloc (.cells #[.string x.f0.f0, .string x.f0.f1, .slice A0 x.f1.length c0, .slice A1 x.f2.length c1] 28)).heap.size := by simp
  have x0_0 : (w.alloc (.cells #[.string x.f0.f0, .string x.f0.f1, .slice A0 x.f1.length c0, .slice A1 x.f2.length c1] 28)).cell? ⟨w.heap.size, 0, none⟩ = some (.string x.f0.f0) := by simp
  have x0_1 : (w.alloc (.cells #[.string x.f0.f0, .string x.f0.f1, .slice A0 x.f1.length c0, .slice A1 x.f2.length c1] 28)).cell? ⟨w.heap.size, 1, none⟩ = some (.string x.f0.f1) := by simp
  have x0_2 : (w.alloc (.cells #[.string x.f0.f0, .string x.f0.f1, .slice A0 x.f1.length c0, .slice A1 x.f2.length c1] 28)).cell? ⟨w.heap.size, 2, none⟩ = some (.slice A0 x.f1.length c0) := by simp
  have x0_3 : (w.alloc (.cells #[.string x.f0.f0, .string x.f0.f1, .slice A0 x.f1.length c0, .slice A1 x.f2.length c1] 28)).cell? ⟨w.heap.size, 3, none⟩ = some (.slice A1 x.f2.length c1) := by simp
  go_enter Tryz.func71, Tryz.ntmps71
  go_wp2_with fail
  refine (calls_at (a := a) (by omega) (markAddrS_any A0 c0 c0 x.f1.length x.f1 (a) base (fun q => ok q ∧ q < w.heap.size) _ G0.out hw_1.1 (by omega))).mono ?_
  rintro e u0 ⟨rfl, m0, g0⟩
  have t0 : Tch (fun q => ok q ∧ q < w.heap.size) _ u0 := (Tch.refl _ _).row g0 (fun q hq => G0.out.1 q hq)
  replace G1 := Aside0.mk (Kd.R_over' G1.out (Kd.R_typed G0.out) (by decide) g0)
  clear g0
  have T1 := Aside0.mk (T0.out.trans t0)
  replace G0 := Aside0.mk m0
  have x1_0 := (tch_cell t0 hz0 (fun h => Nat.lt_irrefl _ h.2) 0).trans x0_0
  have x1_1 := (tch_cell t0 hz0 (fun h => Nat.lt_irrefl _ h.2) 1).trans x0_1
  have x1_2 := (tch_cell t0 hz0 (fun h => Nat.lt_irrefl _ h.2) 2).trans x0_2
  have x1_3 := (tch_cell t0 hz0 (fun h => Nat.lt_irrefl _ h.2) 3).trans x0_3
  have hz1 : w.heap.size < u0.heap.size := Nat.lt_of_lt_of_le hz0 t0.size
  clear m0 t0 x0_0 x0_1 x0_2 x0_3
  go_wp2_with fail
  refine (calls_at (a := a + 2 * x.f1.length) (by omega) (markStringS_any A1 c1 c1 x.f2.length x.f2 (a + 2 * x.f1.length) base (fun q => ok q ∧ q < w.heap.size) _ G1.out hw_2.1 (by omega))).mono ?_
  rintro e u1 ⟨rfl, m1, g1⟩
  have t1 : Tch (fun q => ok q ∧ q < w.heap.size) _ u1 := (Tch.refl _ _).row g1 (fun q hq => G1.out.1 q hq)
  replace G0 := Aside0.mk (Kd.R_over' G0.out (Kd.R_typed G1.out) (by decide) g1)
  clear g1
  have T2 := Aside0.mk (T1.out.trans t1)
  replace G1 := Aside0.mk m1
  have x2_0 := (tch_cell t1 hz1 (fun h => Nat.lt_irrefl _ h.2) 0).trans x1_0
  have x2_1 := (tch_cell t1 hz1 (fun h => Nat.lt_irrefl _ h.2) 1).trans x1_1
  have x2_2 := (tch_cell t1 hz1 (fun h => Nat.lt_irrefl _ h.2) 2).trans x1_2
  have x2_3 := (tch_cell t1 hz1 (fun h => Nat.lt_irrefl _ h.2) 3).trans x1_3
  have hz2 : w.heap.size < u1.heap.size := Nat.lt_of_lt_of_le hz1 t1.size
  clear m1 t1 x1_0 x1_1 x1_2 x1_3
  go_wp2
  go_ret
  exact ⟨reti (by omega), by omega, Kd.R_mono G0.out (fun q hq => hq.1), Kd.R_mono G1.out (fun q hq => hq.1), T2.out.mono (fun q hq _ => hq.1)⟩
set_option maxRecDepth 100000 in
set_option maxHeartbeats 4000000 in
theorem markCli_any (x : SCli) (A0 : Option Addr) (c0 : Nat) (A1 : Option Addr) (c1 : Nat) (A2 : Option Addr) (c2 : Nat) (a : Nat) (base : Nat) (ok : Nat → Prop) (w : World) (hw : fitCli x) (hr0 : Kd.R kAddr 24 w base ok (.slice A0 x.f1.f1.length c0) x.f1.f1) (hr1 : Kd.R Kd.string 9 w base ok (.slice A1 x.f1.f2.length c1) x.f1.f2) (hr2 : Kd.R (Kd.int .i64) 3 w base ok (.slice A2 x.f4.length c2) x.f4) (ha : a ≤ 1099511627776) :
    Calls Tryz.prog 29 #[.agg #[.string x.f0, .string x.f1.f0.f0, .string x.f1.f0.f1, .slice A0 x.f1.f1.length c0, .slice A1 x.f1.f2.length c1, .int .i64 x.f2, .int .i64 x.f3, .slice A2 x.f4.length c2], .int .i64 (a : Int)] w fun e w' => e = .returned (.int .i64 ((a + 2 * x.f1.f1.length + 1 * x.f1.f2.length + 1 * x.f4.length : Nat) : Int)) ∧ a + 2 * x.f1.f1.length + 1 * x.f1.f2.length + 1 * x.f4.length ≤ a + 35184372088832 ∧ Kd.R kAddr 24 w' base ok (.slice A0 x.f1.f1.length c0) (mksAddr (a) x.f1.f1.length) ∧ Kd.R Kd.string 9 w' base ok (.slice A1 x.f1.f2.length c1) (mksString (a + 2 * x.f1.f1.length) x.f1.f2.length) ∧ Kd.R (Kd.int .i64) 3 w' base ok (.slice A2 x.f4.length c2) (mksInt (a + 2 * x.f1.f1.length + 1 * x.f1.f2.length) x.f4.length) ∧ Tch ok w w' := by
  unfold fitCli at hw
  obtain ⟨hw_0, hw_1, hw_2, hw_3, hw_4⟩ := hw
  have G0 := Aside0.mk (Kd.R_alloc (Kd.R_mono (Kd.R_bound hr0) (ok' := (fun q => ok q ∧ q < w.heap.size)) (fun q hq => ⟨hq.1, hq.2.2.1⟩)) (.cells #[.string x.f0, .string x.f1.f0.f0, .string x.f1.f0.f1, .slice A0 x.f1.f1.length c0, .slice A1 x.f1.f2.length c1, .int .i64 x.f2, .int .i64 x.f3, .slice A2 x.f4.length c2] 31))
  clear hr0
  have G1 := Aside0.mk (Kd.R_alloc (Kd.R_mono (Kd.R_bound hr1) (ok' := (fun q => ok q ∧ q < w.heap.size)) (fun q hq => ⟨hq.1, hq.2.2.1⟩)) (.cells #[.string x.f0, .string x.f1.f0.f0, .string x.f1.f0.f1, .slice A0 x.f1.f1.length c0, .slice A1 x.f1.f2.length c1, .int .i64 x.f2, .int .i64 x.f3, .slice A2 x.f4.length c2] 31))
  clear hr1
  have G2 := Aside0.mk (Kd.R_alloc (Kd.R_mono (Kd.R_bound hr2) (ok' := (fun q => ok q ∧ q < w.heap.size)) (fun q hq => ⟨hq.1, hq.2.2.1⟩)) (.cells #[.string x.f0, .string x.f1.f0.f0, .string x.f1.f0.f1, .slice A0 x.f1.f1.length c0, .slice A1 x.f1.f2.length c1, .int .i64 x.f2, .int .i64 x.f3, .slice A2 x.f4.length c2] 31))
  clear hr2
  have T0 : Aside0 (Tch (fun q => ok q ∧ q < w.heap.size) w (w.alloc (.cells #[.string x.f0, .string x.f1.f0.f0, .string x.f1.f0.f1, .slice A0 x.f1.f1.length c0, .slice A1 x.f1.f2.length c1, .int .i64 x.f2, .int .i64 x.f3, .slice A2 x.f4.length c2] 31))) := ⟨(Tch.refl _ _).below ((Below.refl _ _).alloc (Nat.le_refl _) _)⟩
  have hz0 : w.heap.size < (w.alloc (.cells #[.string x.f0, .string x.f1.f0.f0, .string x.f1.f0.f1, .slice A0 x.f1.f1.length c0, .slice A1 x.f1.f2.length c1, .int .i64 x.f2, .int .i64 x.f3, .slice A2 x.f4.length c2] 31)).heap.size := by simp
  have x0_0 : (w.alloc (.cells #[.string x.f0, .string x.f1.f0.f0, .string x.f1.f0.f1, .slice A0 x.f1.f1.length c0, .slice A1 x.f1.f2.length c1, .int .i64 x.f2, .int .i64 x.f3, .slice A2 x.f4.length c2] 31)).cell? ⟨w.heap.size, 0, none⟩ = some (.string x.f0) := by simp
  have x0_1 : (w.alloc (.cells #[.string x.f0, .string x.f1.f0.f0, .string x.f1.f0.f1, .slice A0 x.f1.f1.length c0, .slice A1 x.f1.f2.length c1, .int .i64 x.f2, .int .i64 x.f3, .slice A2 x.f4.length c2] 31)).cell? ⟨w.heap.size, 1, none⟩ = some (.string x.f1.f0.f0) := by simp
  have x0_2 : (w.alloc (.cells #[.string x.f0, .string x.f1.f0.f0, .string x.f1.f0.f1, .slice A0 x.f1.f1.length c0, .slice A1 x.f1.f2.length c1, .int .i64 x.f2, .int .i64 x.f3, .slice A2 x.f4.length c2] 31)).cell? ⟨w.heap.size, 2, none⟩ = some (.string x.f1.f0.f1) := by simp
  have x0_3 : (w.alloc (.cells #[.string x.f0, .string x.f1.f0.f0, .string x.f1.f0.f1, .slice A0 x.f1.f1.length c0, .slice A1 x.f1.f2.length c1, .int .i64 x.f2, .int .i64 x.f3, .slice A2 x.f4.length c2] 31)).cell? ⟨w.heap.size, 3, none⟩ = some (.slice A0 x.f1.f1.length c0) := by simp
  have x0_4 : (w.alloc (.cells #[.string x.f0, .string x.f1.f0.f0, .string x.f1.f0.f1, .slice A0 x.f1.f1.length c0, .slice A1 x.f1.f2.length c1, .int .i64 x.f2, .int .i64 x.f3, .slice A2 x.f4.length c2] 31)).cell? ⟨w.heap.size, 4, none⟩ = some (.slice A1 x.f1.f2.length c1) := by simp
  have x0_5 : (w.alloc (.cells #[.string x.f0, .string x.f1.f0.f0, .string x.f1.f0.f1, .slice A0 x.f1.f1.length c0, .slice A1 x.f1.f2.length c1, .int .i64 x.f2, .int .i64 x.f3, .slice A2 x.f4.length c2] 31)).cell? ⟨w.heap.size, 5, none⟩ = some (.int .i64 x.f2) := by simp
  have x0_6 : (w.alloc (.cells #[.string x.f0, .string x.f1.f0.f0, .string x.f1.f0.f1, .slice A0 x.f1.f1.length c0, .slice A1 x.f1.f2.length c1, .int .i64 x.f2, .int .i64 x.f3, .slice A2 x.f4.length c2] 31)).cell? ⟨w.heap.size, 6, none⟩ = some (.int .i64 x.f3) := by simp
  have x0_7 : (w.alloc (.cells #[.string x.f0, .string x.f1.f0.f0, .string x.f1.f0.f1, .slice A0 x.f1.f1.length c0, .slice A1 x.f1.f2.length c1, .int .i64 x.f2, .int .i64 x.f3, .slice A2 x.f4.length c2] 31)).cell? ⟨w.heap.size, 7, none⟩ = some (.slice A2 x.f4.length c2) := by simp
  go_enter Tryz.func29, Tryz.ntmps29
  have K0 := Kd.R_mono (Kd.R_apart' (G0.out) (Kd.R_typed G2.out) (by decide)) (ok' := (fun q => (fun q => ok q ∧ q < w.heap.size) q ∧ some q ≠ (Value.slice A2 x.f4.length c2).ownBlock)) (fun q hq => hq)
  have K1 := Kd.R_mono (Kd.R_apart' (G1.out) (Kd.R_typed G2.out) (by decide)) (ok' := (fun q => (fun q => ok q ∧ q < w.heap.size) q ∧ some q ≠ (Value.slice A2 x.f4.length c2).ownBlock)) (fun q hq => hq)
  go_wp2_with fail
  refine (calls_at (a := a) (by omega) (markMail_any x.f1 A0 c0 A1 c1 (a) base (fun q => (fun q => ok q ∧ q < w.heap.size) q ∧ some q ≠ (Value.slice A2 x.f4.length c2).ownBlock) _ hw_1 K0 K1 (by omega))).mono ?_
  rintro e u0 ⟨rfl, le0, m0, m1, t0⟩
  replace G2 := Aside0.mk (Kd.R_mono (R_tch (Kd.R_tight rfl G2.out) t0 (fun q hq h => h.2 hq)) (fun q hq => G2.out.1 q hq.symm))
  replace G0 := Aside0.mk (Kd.R_mono m0 (fun q hq => hq.1))
  clear m0 K0
  replace G1 := Aside0.mk (Kd.R_mono m1 (fun q hq => hq.1))
  clear m1 K1
  replace t0 : Tch (fun q => ok q ∧ q < w.heap.size) _ u0 := t0.mono (fun q hq _ => hq.1)
  have hs1 := hw_1
  unfold fitMail at hs1
  have T1 := Aside0.mk (T0.out.trans t0)
  have x1_0 := (tch_cell t0 hz0 (fun h => Nat.lt_irrefl _ h.2) 0).trans x0_0
  have x1_1 := (tch_cell t0 hz0 (fun h => Nat.lt_irrefl _ h.2) 1).trans x0_1
  have x1_2 := (tch_cell t0 hz0 (fun h => Nat.lt_irrefl _ h.2) 2).trans x0_2
  have x1_3 := (tch_cell t0 hz0 (fun h => Nat.lt_irrefl _ h.2) 3).trans x0_3
  have x1_4 := (tch_cell t0 hz0 (fun h => Nat.lt_irrefl _ h.2) 4).trans x0_4
  have x1_5 := (tch_cell t0 hz0 (fun h => Nat.lt_irrefl _ h.2) 5).trans x0_5
  have x1_6 := (tch_cell t0 hz0 (fun h => Nat.lt_irrefl _ h.2) 6).trans x0_6
  have x1_7 := (tch_cell t0 hz0 (fun h => Nat.lt_irrefl _ h.2) 7).trans x0_7
  have hz1 : w.heap.size < u0.heap.size := Nat.lt_of_lt_of_le hz0 t0.size
  clear t0 x0_0 x0_1 x0_2 x0_3 x0_4 x0_5 x0_6 x0_7
  go_wp2_with fail
  refine (calls_at (a := a + 2 * x.f1.f1.length + 1 * x.f1.f2.length) (by omega) (markIntS_any A2 c2 c2 x.f4.length x.f4 (a + 2 * x.f1.f1.length + 1 * x.f1.f2.length) base (fun q => ok q ∧ q < w.heap.size) _ G2.out hw_4.1 (by omega))).mono ?_
  rintro e u2 ⟨rfl, m2, g2⟩
  have t2 : Tch (fun q => ok q ∧ q < w.heap.size) _ u2 := (Tch.refl _ _).row g2 (fun q hq => G2.out.1 q hq)
  replace G0 := Aside0.mk (Kd.R_over' G0.out (Kd.R_typed G2.out) (by decide) g2)
  replace G1 := Aside0.mk (Kd.R_over' G1.out (Kd.R_typed G2.out) (by decide) g2)
  clear g2
  have T2 := Aside0.mk (T1.out.trans t2)
  replace G2 := Aside0.mk m2
  have x2_0 := (tch_cell t2 hz1 (fun h => Nat.lt_irrefl _ h.2) 0).trans x1_0
  have x2_1 := (tch_cell t2 hz1 (fun h => Nat.lt_irrefl _ h.2) 1).trans x1_1
  have x2_2 := (tch_cell t2 hz1 (fun h => Nat.lt_irrefl _ h.2) 2).trans x1_2
  have x2_3 := (tch_cell t2 hz1 (fun h => Nat.lt_irrefl _ h.2) 3).trans x1_3
  have x2_4 := (tch_cell t2 hz1 (fun h => Nat.lt_irrefl _ h.2) 4).trans x1_4
  have x2_5 := (tch_cell t2 hz1 (fun h => Nat.lt_irrefl _ h.2) 5).trans x1_5
  have x2_6 := (tch_cell t2 hz1 (fun h => Nat.lt_irrefl _ h.2) 6).trans x1_6
  have x2_7 := (tch_cell t2 hz1 (fun h => Nat.lt_irrefl _ h.2) 7).trans x1_7
  have hz2 : w.heap.size < u2.heap.size := Nat.lt_of_lt_of_le hz1 t2.size
  clear m2 t2 x1_0 x1_1 x1_2 x1_3 x1_4 x1_5 x1_6 x1_7
  go_wp2
  go_ret
  exact ⟨reti (by omega), by omega, Kd.R_mono G0.out (fun q hq => hq.1), Kd.R_mono G1.out (fun q hq => hq.1), Kd.R_mono G2.out (fun q hq => hq.1), T2.out.mono (fun q hq _ => hq.1)⟩
end Go.Proofs.YtoppgnmnbbhghaaGreatDoor
