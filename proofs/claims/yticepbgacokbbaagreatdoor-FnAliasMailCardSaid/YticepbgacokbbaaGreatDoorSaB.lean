/- The laws' own comparisons, of the same twice: contracts. -/
import Derived.Test.YticepbgacokbbaaGreatDoorKit0
import Derived.Deep.QuietTactic
import Derived.BigQuiet
import Derived.StillTailTactics
namespace Go.Proofs.YticepbgacokbbaaGreatDoor
open Go.RowKit Go.Proofs.YticepbgacokbbaaGreatDoorW.PrintWords
set_option linter.unusedVariables false
set_option linter.unusedSimpArgs false

attribute [local go_sem high] eqA25
set_option maxRecDepth 100000 in
set_option maxHeartbeats 1000000 in
theorem saTexts_any (A : Option Addr) (c : Nat) (B : Option Addr) (d : Nat) (xs : List ByteArray) (w : World) (hw : (xs.length ≤ 1048576 ∧ ∀ y ∈ xs, y.size ≤ 1048576)) (hr : Kd.C Kd.string w A xs.length xs) (gr : Kd.C Kd.string w B xs.length xs) :
  Calls Tryz.prog 11 #[.slice A xs.length c, .slice B xs.length d] w fun e w' => e = .returned (.bool true) ∧ Below w.heap.size w w' := by
 obtain ⟨hwl, hwx⟩ := hw
 have HX := Lib.hid hwx
 clear hwx
 go_enter Tryz.func11, Tryz.ntmps11
 go_wp2
 go_loopg [5] (xs.length) (fun g v wr => ∃ k : Nat, k ≤ xs.length ∧ xs.length - k ≤ g ∧ v = .int .i64 k ∧ Aside0 (Below w.heap.size w wr))
 case atStart => exact ⟨0, Nat.zero_le _, by omega, rfl, ⟨Below.refl _ _⟩⟩
 case round =>
  obtain ⟨k, hk, hg, rfl, BW⟩ := hrel
  by_cases hlt : k < xs.length
  ·obtain ⟨ad, e1, p0⟩ := at_Str (Kd.C_below hr BW.out) k hlt
   obtain ⟨ae, e2, r0⟩ := at_Str (Kd.C_below gr BW.out) k hlt
   subst e1
   subst e2
   have hx := HX.out (xs.getD k (⟨#[]⟩ : ByteArray)) (getD_mem xs (⟨#[]⟩ : ByteArray) hlt)
   generalize xs.getD k (⟨#[]⟩ : ByteArray) = y at hx p0 r0
   have hyy : (y.toList == y.toList) = true := beq_self_eq_true _
   clear hx
   go_wp2
   repeat (go_quiet (fail); try go_wp2)
   go_roundg (xs.length - (k + 1))
   case measure => omega
   case rel => exact ⟨k + 1, by omega, Nat.le_refl _, rfl, ⟨by first | exact BW.out | exact ⟨BW.out.os, BW.out.tape, BW.out.output, BW.out.size, BW.out.block⟩⟩⟩
  ·go_wp2
   go_ret
   exact ⟨rfl, BW.out⟩
set_option maxRecDepth 100000 in
set_option maxHeartbeats 1000000 in
theorem saAddrs_any (A : Option Addr) (c : Nat) (B : Option Addr) (d : Nat) (xs : List SAddr) (w : World) (hwl : xs.length ≤ 1048576) (hr : Kd.C kAddr w A xs.length xs) (gr : Kd.C kAddr w B xs.length xs) :
  Calls Tryz.prog 36 #[.slice A xs.length c, .slice B xs.length d] w fun e w' => e = .returned (.bool true) ∧ Below w.heap.size w w' := by
 go_enter Tryz.func36, Tryz.ntmps36
 go_wp2
 go_loopg [5] (xs.length) (fun g v wr => ∃ k : Nat, k ≤ xs.length ∧ xs.length - k ≤ g ∧ v = .int .i64 k ∧ Aside0 (Below w.heap.size w wr))
 case atStart => exact ⟨0, Nat.zero_le _, by omega, rfl, ⟨Below.refl _ _⟩⟩
 case round =>
  obtain ⟨k, hk, hg, rfl, BW⟩ := hrel
  by_cases hlt : k < xs.length
  ·have hlt' : (k : Int) < (xs.length : Int) := by omega
   obtain ⟨ad, e1, p0, p1⟩ := at_Addr (Kd.C_below hr BW.out) k hlt
   obtain ⟨ae, e2, r0, r1⟩ := at_Addr (Kd.C_below gr BW.out) k hlt
   subst e1
   subst e2
   clear hr gr
   generalize xs.getD k zAddr = y at p0 r0 p1 r1
   have he0 : (y.f0.toList == y.f0.toList) = true := beq_self_eq_true _
   have he1 : (y.f1.toList == y.f1.toList) = true := beq_self_eq_true _
   go_wp2
   go_quiet (fail)
   go_wp2
   go_roundg (xs.length - (k + 1))
   case measure => omega
   case rel => exact ⟨k + 1, by omega, Nat.le_refl _, by go_num, ⟨blw_drewN BW.out _⟩⟩
  ·have hlt' : ¬ (k : Int) < (xs.length : Int) := by omega
   go_wp2
   go_ret
   exact ⟨rfl, BW.out⟩
set_option maxRecDepth 100000 in
set_option maxHeartbeats 2000000 in
theorem saMail_any (x : SMail) (A0 : Option Addr) (c0 : Nat) (A1 : Option Addr) (c1 : Nat) (G0 : Option Addr) (e0 : Nat) (G1 : Option Addr) (e1 : Nat) (w : World) (hw : fitMail x) (hr0 : Kd.C kAddr w A0 x.f1.length x.f1) (hr1 : Kd.C Kd.string w A1 x.f2.length x.f2) (gr0 : Kd.C kAddr w G0 x.f1.length x.f1) (gr1 : Kd.C Kd.string w G1 x.f2.length x.f2) :
  Calls Tryz.prog 8 #[.agg #[.string x.f0.f0, .string x.f0.f1, .slice A0 x.f1.length c0, .slice A1 x.f2.length c1], .agg #[.string x.f0.f0, .string x.f0.f1, .slice G0 x.f1.length e0, .slice G1 x.f2.length e1]] w fun e w' => e = .returned (.bool true) ∧ Below w.heap.size w w' := by
 have hc0 := fun (W : World) (hW : Below w.heap.size w W) => saAddrs_any A0 c0 G0 e0 x.f1 W hw.2.1.1 (Kd.C_below hr0 hW) (Kd.C_below gr0 hW)
 have hc1 := fun (W : World) (hW : Below w.heap.size w W) => saTexts_any A1 c1 G1 e1 x.f2 W hw.2.2 (Kd.C_below hr1 hW) (Kd.C_below gr1 hW)
 clear hr0 gr0 hr1 gr1
 have he0 : (x.f0.f0.toList == x.f0.f0.toList) = true := beq_self_eq_true _
 have he1 : (x.f0.f1.toList == x.f0.f1.toList) = true := beq_self_eq_true _
 go_enter Tryz.func8, Tryz.ntmps8
 go_wp2_with fail
 obtain ⟨W0, hW0⟩ : ∃ W0, W0 = ((w.alloc (.cells #[.string x.f0.f0, .string x.f0.f1, .slice A0 x.f1.length c0, .slice A1 x.f2.length c1] 29)).alloc (.cells #[.string x.f0.f0, .string x.f0.f1, .slice G0 x.f1.length e0, .slice G1 x.f2.length e1] 29)) := ⟨_, rfl⟩
 rw [← hW0]
 have B0 : Below w.heap.size w W0 := by rw [hW0]; exact (bel_alloc (bel_alloc (Below.refl _ _) _) _)
 have Z0 : w.heap.size < W0.heap.size := by rw [hW0]; simp; try omega
 have c0_ : W0.cell? ⟨w.heap.size, 0, none⟩ = some (.string x.f0.f0) := by rw [hW0]; first | (simp; done) | (rw [World.cell?_alloc_lt _ _ _ (by first | (simp; done) | (simp; omega))]; first | (simp; done) | (rw [World.cell?_alloc_lt _ _ _ (by first | (simp; done) | (simp; omega))]; simp))
 have c1_ : W0.cell? ⟨w.heap.size, 1, none⟩ = some (.string x.f0.f1) := by rw [hW0]; first | (simp; done) | (rw [World.cell?_alloc_lt _ _ _ (by first | (simp; done) | (simp; omega))]; first | (simp; done) | (rw [World.cell?_alloc_lt _ _ _ (by first | (simp; done) | (simp; omega))]; simp))
 have c2_ : W0.cell? ⟨w.heap.size, 2, none⟩ = some (.slice A0 x.f1.length c0) := by rw [hW0]; first | (simp; done) | (rw [World.cell?_alloc_lt _ _ _ (by first | (simp; done) | (simp; omega))]; first | (simp; done) | (rw [World.cell?_alloc_lt _ _ _ (by first | (simp; done) | (simp; omega))]; simp))
 have c3_ : W0.cell? ⟨w.heap.size, 3, none⟩ = some (.slice A1 x.f2.length c1) := by rw [hW0]; first | (simp; done) | (rw [World.cell?_alloc_lt _ _ _ (by first | (simp; done) | (simp; omega))]; first | (simp; done) | (rw [World.cell?_alloc_lt _ _ _ (by first | (simp; done) | (simp; omega))]; simp))
 have Z1 : w.heap.size + 1 < W0.heap.size := by rw [hW0]; simp; try omega
 have c4_ : W0.cell? ⟨w.heap.size + 1, 0, none⟩ = some (.string x.f0.f0) := by rw [hW0]; first | (simp; done) | (rw [World.cell?_alloc_lt _ _ _ (by first | (simp; done) | (simp; omega))]; first | (simp; done) | (rw [World.cell?_alloc_lt _ _ _ (by first | (simp; done) | (simp; omega))]; simp))
 have c5_ : W0.cell? ⟨w.heap.size + 1, 1, none⟩ = some (.string x.f0.f1) := by rw [hW0]; first | (simp; done) | (rw [World.cell?_alloc_lt _ _ _ (by first | (simp; done) | (simp; omega))]; first | (simp; done) | (rw [World.cell?_alloc_lt _ _ _ (by first | (simp; done) | (simp; omega))]; simp))
 have c6_ : W0.cell? ⟨w.heap.size + 1, 2, none⟩ = some (.slice G0 x.f1.length e0) := by rw [hW0]; first | (simp; done) | (rw [World.cell?_alloc_lt _ _ _ (by first | (simp; done) | (simp; omega))]; first | (simp; done) | (rw [World.cell?_alloc_lt _ _ _ (by first | (simp; done) | (simp; omega))]; simp))
 have c7_ : W0.cell? ⟨w.heap.size + 1, 3, none⟩ = some (.slice G1 x.f2.length e1) := by rw [hW0]; first | (simp; done) | (rw [World.cell?_alloc_lt _ _ _ (by first | (simp; done) | (simp; omega))]; first | (simp; done) | (rw [World.cell?_alloc_lt _ _ _ (by first | (simp; done) | (simp; omega))]; simp))
 have HC : Aside0 (∀ W, Below W0.heap.size W0 W → W.cell? ⟨w.heap.size, 0, none⟩ = some (.string x.f0.f0) ∧ W.cell? ⟨w.heap.size, 1, none⟩ = some (.string x.f0.f1) ∧ W.cell? ⟨w.heap.size, 2, none⟩ = some (.slice A0 x.f1.length c0) ∧ W.cell? ⟨w.heap.size, 3, none⟩ = some (.slice A1 x.f2.length c1) ∧ W.cell? ⟨w.heap.size + 1, 0, none⟩ = some (.string x.f0.f0) ∧ W.cell? ⟨w.heap.size + 1, 1, none⟩ = some (.string x.f0.f1) ∧ W.cell? ⟨w.heap.size + 1, 2, none⟩ = some (.slice G0 x.f1.length e0) ∧ W.cell? ⟨w.heap.size + 1, 3, none⟩ = some (.slice G1 x.f2.length e1)) := ⟨fun W h => ⟨(h.cell (p := ⟨w.heap.size, 0, none⟩) Z0).trans c0_, (h.cell (p := ⟨w.heap.size, 1, none⟩) Z0).trans c1_, (h.cell (p := ⟨w.heap.size, 2, none⟩) Z0).trans c2_, (h.cell (p := ⟨w.heap.size, 3, none⟩) Z0).trans c3_, (h.cell (p := ⟨w.heap.size + 1, 0, none⟩) Z1).trans c4_, (h.cell (p := ⟨w.heap.size + 1, 1, none⟩) Z1).trans c5_, (h.cell (p := ⟨w.heap.size + 1, 2, none⟩) Z1).trans c6_, (h.cell (p := ⟨w.heap.size + 1, 3, none⟩) Z1).trans c7_⟩⟩
 clear hW0 c0_ c1_ c2_ c3_ c4_ c5_ c6_ c7_
 have HB0 := Aside0.mk B0
 have hsz := B0.size
 clear B0
 obtain ⟨c0_, c1_, c2_, c3_, c4_, c5_, c6_, c7_⟩ := HC.out _ (Below.refl _ _)
 go_wp2_with (first | (go_at_call 36; with_reducible refine (hc0 _ ?hbel).mono ?_; (case hbel => exact bel_then HB0.out (by (with_reducible repeat (first | exact (Below.refl _ _) | refine bel_alloc ?_ _ | refine bel_set ?_ _ ?_ | refine blw_drewN ?_ _ | refine Below.drew ?_)); all_goals (first | (simp; done) | (simp; omega) | omega))); rintro e w1 ⟨rfl, b1⟩; have B1 : Below W0.heap.size W0 w1 := bel_then (by (with_reducible repeat (first | exact (Below.refl _ _) | refine bel_alloc ?_ _ | refine bel_set ?_ _ ?_ | refine blw_drewN ?_ _ | refine Below.drew ?_)); all_goals (first | (simp; done) | (simp; omega) | omega)) b1; obtain ⟨d00_, d01_, d02_, d03_, d04_, d05_, d06_, d07_⟩ := HC.out _ B1; clear b1) | (go_at_call 11; with_reducible refine (hc1 _ ?hbel).mono ?_; (case hbel => exact bel_then HB0.out (by (with_reducible repeat (first | exact B1 | refine bel_alloc ?_ _ | refine bel_set ?_ _ ?_ | refine blw_drewN ?_ _ | refine Below.drew ?_)); all_goals (first | (simp; done) | (simp; omega) | omega))); rintro e w2 ⟨rfl, b2⟩; have B2 : Below W0.heap.size W0 w2 := bel_then (by (with_reducible repeat (first | exact B1 | refine bel_alloc ?_ _ | refine bel_set ?_ _ ?_ | refine blw_drewN ?_ _ | refine Below.drew ?_)); all_goals (first | (simp; done) | (simp; omega) | omega)) b2; obtain ⟨d10_, d11_, d12_, d13_, d14_, d15_, d16_, d17_⟩ := HC.out _ B2; clear b2))
 go_ret
 exact ⟨rfl, bel_then HB0.out B2⟩
end Go.Proofs.YticepbgacokbbaaGreatDoor
