/- Hosts that keep nothing: the laws' comparisons, impl.HostOk: contracts. -/
import Derived.Test.YtoppgnmnbbhghaaDoorSaB
import Derived.Test.YtoppgnmnbbhghaaDoorSpoolM
import Derived.Test.YtoppgnmnbbhghaaDoorConf
namespace Go.Proofs.YtoppgnmnbbhghaaDoor
open Go.RowKit Go.Proofs.YtoppgnmnbbhghaaDoorW.PrintWords
set_option linter.unusedVariables false
set_option linter.unusedSimpArgs false

theorem eqW102 (d : Nat) (w : World) (x0 y0 : ByteArray) (x1 y1 : ByteArray) :
    (Op.equalIn (d + 2) 102 (.agg #[.string x0, .string x1]) (.agg #[.string y0, .string y1])).run Tryd.prog w = .ok (x0.toList == y0.toList && (x1.toList == y1.toList)) w := by
  refine eqA_of Tryd.underlying102 (by kernel_rfl) ?_
  refine eqf_cons (by rfl) (by go_simp; rfl) (by go_simp; rfl) (by go_simp) ?_
  exact eqf_last (by rfl) (by go_simp; rfl) (by go_simp; rfl) (by go_simp)
attribute [local go_sem high] eqW102

set_option maxRecDepth 100000 in
set_option maxHeartbeats 2000000 in
theorem saConf_any (x : SConf) (A0 : Option Addr) (c0 : Nat) (A1 : Option Addr) (c1 : Nat) (G0 : Option Addr) (e0 : Nat) (G1 : Option Addr) (e1 : Nat) (w : World) (hw : fitConf x) (hr0 : Kd.C Kd.string w A0 x.f1.length x.f1) (hr1 : Kd.C kWay w A1 x.f2.length x.f2) (gr0 : Kd.C Kd.string w G0 x.f1.length x.f1) (gr1 : Kd.C kWay w G1 x.f2.length x.f2) :
    Calls Tryd.prog 18 #[.agg #[.string x.f0, .slice A0 x.f1.length c0, .slice A1 x.f2.length c1], .agg #[.string x.f0, .slice G0 x.f1.length e0, .slice G1 x.f2.length e1]] w fun e w' => e = .returned (.bool true) ∧ Below w.heap.size w w' := by
  have hc0 := fun (W : World) (hW : Below w.heap.size w W) => saTexts_any A0 c0 G0 e0 x.f1 W hw.2.1 (Kd.C_below hr0 hW) (Kd.C_below gr0 hW)
  have hwl := hw.2.2.1
  have HR1 := Aside0.mk hr1
  have HG1 := Aside0.mk gr1
  clear hw hr0 gr0 hr1 gr1
  have he0 : (x.f0.toList == x.f0.toList) = true := beq_self_eq_true _
  go_enter Tryd.func18, Tryd.ntmps18
  go_wp2_with fail
  obtain ⟨W0, hW0⟩ : ∃ W0, W0 = ((w.alloc (.cells #[.string x.f0, .slice A0 x.f1.length c0, .slice A1 x.f2.length c1] 26)).alloc (.cells #[.string x.f0, .slice G0 x.f1.length e0, .slice G1 x.f2.length e1] 26)) := ⟨_, rfl⟩
  rw [← hW0]
  have B0 : Below w.heap.size w W0 := by rw [hW0]; exact (bel_alloc (bel_alloc (Below.refl _ _) _) _)
  have Z0 : w.heap.size < W0.heap.size := by rw [hW0]; simp; try omega
  have c0_ : W0.cell? ⟨w.heap.size, 0, none⟩ = some (.string x.f0) := by rw [hW0]; first | (simp; done) | (rw [World.cell?_alloc_lt _ _ _ (by first | (simp; done) | (simp; omega))]; first | (simp; done) | (rw [World.cell?_alloc_lt _ _ _ (by first | (simp; done) | (simp; omega))]; simp))
  have c1_ : W0.cell? ⟨w.heap.size, 1, none⟩ = some (.slice A0 x.f1.length c0) := by rw [hW0]; first | (simp; done) | (rw [World.cell?_alloc_lt _ _ _ (by first | (simp; done) | (simp; omega))]; first | (simp; done) | (rw [World.cell?_alloc_lt _ _ _ (by first | (simp; done) | (simp; omega))]; simp))
  have c2_ : W0.cell? ⟨w.heap.size, 2, none⟩ = some (.slice A1 x.f2.length c1) := by rw [hW0]; first | (simp; done) | (rw [World.cell?_alloc_lt _ _ _ (by first | (simp; done) | (simp; omega))]; first | (simp; done) | (rw [World.cell?_alloc_lt _ _ _ (by first | (simp; done) | (simp; omega))]; simp))
  have Z1 : w.heap.size + 1 < W0.heap.size := by rw [hW0]; simp; try omega
  have c3_ : W0.cell? ⟨w.heap.size + 1, 0, none⟩ = some (.string x.f0) := by rw [hW0]; first | (simp; done) | (rw [World.cell?_alloc_lt _ _ _ (by first | (simp; done) | (simp; omega))]; first | (simp; done) | (rw [World.cell?_alloc_lt _ _ _ (by first | (simp; done) | (simp; omega))]; simp))
  have c4_ : W0.cell? ⟨w.heap.size + 1, 1, none⟩ = some (.slice G0 x.f1.length e0) := by rw [hW0]; first | (simp; done) | (rw [World.cell?_alloc_lt _ _ _ (by first | (simp; done) | (simp; omega))]; first | (simp; done) | (rw [World.cell?_alloc_lt _ _ _ (by first | (simp; done) | (simp; omega))]; simp))
  have c5_ : W0.cell? ⟨w.heap.size + 1, 2, none⟩ = some (.slice G1 x.f2.length e1) := by rw [hW0]; first | (simp; done) | (rw [World.cell?_alloc_lt _ _ _ (by first | (simp; done) | (simp; omega))]; first | (simp; done) | (rw [World.cell?_alloc_lt _ _ _ (by first | (simp; done) | (simp; omega))]; simp))
  have HC : Aside0 (∀ W, Below W0.heap.size W0 W → W.cell? ⟨w.heap.size, 0, none⟩ = some (.string x.f0) ∧ W.cell? ⟨w.heap.size, 1, none⟩ = some (.slice A0 x.f1.length c0) ∧ W.cell? ⟨w.heap.size, 2, none⟩ = some (.slice A1 x.f2.length c1) ∧ W.cell? ⟨w.heap.size + 1, 0, none⟩ = some (.string x.f0) ∧ W.cell? ⟨w.heap.size + 1, 1, none⟩ = some (.slice G0 x.f1.length e0) ∧ W.cell? ⟨w.heap.size + 1, 2, none⟩ = some (.slice G1 x.f2.length e1)) := ⟨fun W h => ⟨(h.cell (p := ⟨w.heap.size, 0, none⟩) Z0).trans c0_, (h.cell (p := ⟨w.heap.size, 1, none⟩) Z0).trans c1_, (h.cell (p := ⟨w.heap.size, 2, none⟩) Z0).trans c2_, (h.cell (p := ⟨w.heap.size + 1, 0, none⟩) Z1).trans c3_, (h.cell (p := ⟨w.heap.size + 1, 1, none⟩) Z1).trans c4_, (h.cell (p := ⟨w.heap.size + 1, 2, none⟩) Z1).trans c5_⟩⟩
  clear hW0 c0_ c1_ c2_ c3_ c4_ c5_
  have HB0 := Aside0.mk B0
  have hsz := B0.size
  clear B0
  obtain ⟨c0_, c1_, c2_, c3_, c4_, c5_⟩ := HC.out _ (Below.refl _ _)
  go_wp2_with (go_at_call 43; with_reducible refine (hc0 _ ?hbel).mono ?_; (case hbel => exact bel_then HB0.out (by (with_reducible repeat (first | exact (Below.refl _ _) | refine bel_alloc ?_ _ | refine bel_set ?_ _ ?_ | refine blw_drewN ?_ _ | refine Below.drew ?_)); all_goals (first | (simp; done) | (simp; omega) | omega))); rintro e w1 ⟨rfl, b1⟩; have B1 : Below W0.heap.size W0 w1 := bel_then (by (with_reducible repeat (first | exact (Below.refl _ _) | refine bel_alloc ?_ _ | refine bel_set ?_ _ ?_ | refine blw_drewN ?_ _ | refine Below.drew ?_)); all_goals (first | (simp; done) | (simp; omega) | omega)) b1; obtain ⟨d00_, d01_, d02_, d03_, d04_, d05_⟩ := HC.out _ B1; clear b1)
  have HB1 := Aside0.mk B1
  clear B1
  go_loopg [5] (x.f2.length) (fun g v wr => ∃ k : Nat, k ≤ x.f2.length ∧ x.f2.length - k ≤ g ∧ v = .int .i64 k ∧ Aside0 (Below W0.heap.size W0 wr))
  case atStart => exact ⟨0, Nat.zero_le _, by omega, rfl, HB1⟩
  case round =>
    clear HB1
    obtain ⟨k, hk, hg, rfl, BW⟩ := hrel
    obtain ⟨c0_, c1_, c2_, c3_, c4_, c5_⟩ := HC.out _ BW.out
    by_cases hlt : k < x.f2.length
    · have hlt' : (k : Int) < (x.f2.length : Int) := by omega
      obtain ⟨ad, e1', p0, p1⟩ := at_Way (Kd.C_below HR1.out (bel_then HB0.out BW.out)) k hlt
      obtain ⟨ae, e2', r0, r1⟩ := at_Way (Kd.C_below HG1.out (bel_then HB0.out BW.out)) k hlt
      subst e1'
      subst e2'
      generalize x.f2.getD k zWay = y at p0 r0 p1 r1
      have hy0 : (y.f0.toList == y.f0.toList) = true := beq_self_eq_true _
      have hy1 : (y.f1.toList == y.f1.toList) = true := beq_self_eq_true _
      go_wp2
      go_quiet (fail)
      go_wp2
      go_roundg (x.f2.length - (k + 1))
      case measure => omega
      case rel => exact ⟨k + 1, by omega, Nat.le_refl _, by go_num, ⟨blw_drewN BW.out _⟩⟩
    · have hlt' : ¬ (k : Int) < (x.f2.length : Int) := by omega
      go_wp2
      go_ret
      exact ⟨rfl, bel_then HB0.out BW.out⟩

set_option maxRecDepth 100000 in
set_option maxHeartbeats 2000000 in
theorem saSpool0_any (w : World) :
    Calls Tryd.prog 48 #[.agg #[.int .i64 0, .slice none 0 0], .agg #[.int .i64 0, .slice none 0 0]] w fun e w' => e = .returned (.bool true) ∧ Below w.heap.size w w' := by
  go_enter Tryd.func48, Tryd.ntmps48
  go_wp2_with fail
  obtain ⟨W0, hW0⟩ : ∃ W0, W0 = ((w.alloc (.cells #[.int .i64 0, .slice none 0 0] 30)).alloc (.cells #[.int .i64 0, .slice none 0 0] 30)) := ⟨_, rfl⟩
  rw [← hW0]
  have B0 : Below w.heap.size w W0 := by rw [hW0]; exact (bel_alloc (bel_alloc (Below.refl _ _) _) _)
  have Z0 : w.heap.size < W0.heap.size := by rw [hW0]; simp; try omega
  have c0_ : W0.cell? ⟨w.heap.size, 0, none⟩ = some (.int .i64 0) := by rw [hW0]; first | (simp; done) | (rw [World.cell?_alloc_lt _ _ _ (by first | (simp; done) | (simp; omega))]; first | (simp; done) | (rw [World.cell?_alloc_lt _ _ _ (by first | (simp; done) | (simp; omega))]; simp))
  have c1_ : W0.cell? ⟨w.heap.size, 1, none⟩ = some (.slice none 0 0) := by rw [hW0]; first | (simp; done) | (rw [World.cell?_alloc_lt _ _ _ (by first | (simp; done) | (simp; omega))]; first | (simp; done) | (rw [World.cell?_alloc_lt _ _ _ (by first | (simp; done) | (simp; omega))]; simp))
  have Z1 : w.heap.size + 1 < W0.heap.size := by rw [hW0]; simp; try omega
  have c2_ : W0.cell? ⟨w.heap.size + 1, 0, none⟩ = some (.int .i64 0) := by rw [hW0]; first | (simp; done) | (rw [World.cell?_alloc_lt _ _ _ (by first | (simp; done) | (simp; omega))]; first | (simp; done) | (rw [World.cell?_alloc_lt _ _ _ (by first | (simp; done) | (simp; omega))]; simp))
  have c3_ : W0.cell? ⟨w.heap.size + 1, 1, none⟩ = some (.slice none 0 0) := by rw [hW0]; first | (simp; done) | (rw [World.cell?_alloc_lt _ _ _ (by first | (simp; done) | (simp; omega))]; first | (simp; done) | (rw [World.cell?_alloc_lt _ _ _ (by first | (simp; done) | (simp; omega))]; simp))
  have HC : Aside0 (∀ W, Below W0.heap.size W0 W → W.cell? ⟨w.heap.size, 0, none⟩ = some (.int .i64 0) ∧ W.cell? ⟨w.heap.size, 1, none⟩ = some (.slice none 0 0) ∧ W.cell? ⟨w.heap.size + 1, 0, none⟩ = some (.int .i64 0) ∧ W.cell? ⟨w.heap.size + 1, 1, none⟩ = some (.slice none 0 0)) := ⟨fun W h => ⟨(h.cell (p := ⟨w.heap.size, 0, none⟩) Z0).trans c0_, (h.cell (p := ⟨w.heap.size, 1, none⟩) Z0).trans c1_, (h.cell (p := ⟨w.heap.size + 1, 0, none⟩) Z1).trans c2_, (h.cell (p := ⟨w.heap.size + 1, 1, none⟩) Z1).trans c3_⟩⟩
  clear hW0 c0_ c1_ c2_ c3_
  have HB0 := Aside0.mk B0
  have hsz := B0.size
  clear B0
  obtain ⟨c0_, c1_, c2_, c3_⟩ := HC.out _ (Below.refl _ _)
  go_wp2
  go_loopg [5] 1 (fun g v wr => v = .int .i64 0 ∧ Aside0 (Below W0.heap.size W0 wr))
  case atStart => exact ⟨rfl, ⟨Below.refl _ _⟩⟩
  case round =>
    obtain ⟨rfl, BW⟩ := hrel
    obtain ⟨c0_, c1_, c2_, c3_⟩ := HC.out _ BW.out
    go_wp2
    go_ret
    exact ⟨rfl, bel_then HB0.out BW.out⟩

set_option maxRecDepth 100000 in
theorem saLosses0_any (w : World) : Calls Tryd.prog 56 #[.slice none 0 0, .slice none 0 0] w fun e w' => e = .returned (.bool true) ∧ Below w.heap.size w w' := by
  go_enter Tryd.func56, Tryd.ntmps56
  go_wp2
  go_loopg [5] 1 (fun g v wr => v = .int .i64 0 ∧ Aside0 (Below w.heap.size w wr))
  case atStart => exact ⟨rfl, ⟨Below.refl _ _⟩⟩
  case round =>
    obtain ⟨rfl, BW⟩ := hrel
    go_wp2
    go_ret
    exact ⟨rfl, BW.out⟩

set_option maxRecDepth 100000 in
set_option maxHeartbeats 2000000 in
theorem saHost0_any (x : SConf) (A0 : Option Addr) (c0 : Nat) (A1 : Option Addr) (c1 : Nat) (G0 : Option Addr) (e0 : Nat) (G1 : Option Addr) (e1 : Nat) (w : World) (hw : fitConf x) (hr0 : Kd.C Kd.string w A0 x.f1.length x.f1) (hr1 : Kd.C kWay w A1 x.f2.length x.f2) (gr0 : Kd.C Kd.string w G0 x.f1.length x.f1) (gr1 : Kd.C kWay w G1 x.f2.length x.f2) :
    Calls Tryd.prog 13 #[.agg #[.string x.f0, .slice A0 x.f1.length c0, .slice A1 x.f2.length c1, .int .i64 0, .slice none 0 0, .slice none 0 0, .slice none 0 0], .agg #[.string x.f0, .slice G0 x.f1.length e0, .slice G1 x.f2.length e1, .int .i64 0, .slice none 0 0, .slice none 0 0, .slice none 0 0]] w fun e w' => e = .returned (.bool true) ∧ Below w.heap.size w w' := by
  have hc0 := fun (W : World) (hW : Below w.heap.size w W) => saConf_any x A0 c0 A1 c1 G0 e0 G1 e1 W hw (Kd.C_below hr0 hW) (Kd.C_below hr1 hW) (Kd.C_below gr0 hW) (Kd.C_below gr1 hW)
  have hc1 := fun (W : World) (hW : Below w.heap.size w W) => saSpool0_any W
  have hc2 := fun (W : World) (hW : Below w.heap.size w W) => saLosses0_any W
  clear hw hr0 gr0 hr1 gr1
  go_enter Tryd.func13, Tryd.ntmps13
  go_wp2_with fail
  obtain ⟨W0, hW0⟩ : ∃ W0, W0 = ((w.alloc (.cells #[.string x.f0, .slice A0 x.f1.length c0, .slice A1 x.f2.length c1, .int .i64 0, .slice none 0 0, .slice none 0 0, .slice none 0 0] 34)).alloc (.cells #[.string x.f0, .slice G0 x.f1.length e0, .slice G1 x.f2.length e1, .int .i64 0, .slice none 0 0, .slice none 0 0, .slice none 0 0] 34)) := ⟨_, rfl⟩
  rw [← hW0]
  have B0 : Below w.heap.size w W0 := by rw [hW0]; exact (bel_alloc (bel_alloc (Below.refl _ _) _) _)
  have Z0 : w.heap.size < W0.heap.size := by rw [hW0]; simp; try omega
  have c0_ : W0.cell? ⟨w.heap.size, 0, none⟩ = some (.string x.f0) := by rw [hW0]; first | (simp; done) | (rw [World.cell?_alloc_lt _ _ _ (by first | (simp; done) | (simp; omega))]; first | (simp; done) | (rw [World.cell?_alloc_lt _ _ _ (by first | (simp; done) | (simp; omega))]; simp))
  have c1_ : W0.cell? ⟨w.heap.size, 1, none⟩ = some (.slice A0 x.f1.length c0) := by rw [hW0]; first | (simp; done) | (rw [World.cell?_alloc_lt _ _ _ (by first | (simp; done) | (simp; omega))]; first | (simp; done) | (rw [World.cell?_alloc_lt _ _ _ (by first | (simp; done) | (simp; omega))]; simp))
  have c2_ : W0.cell? ⟨w.heap.size, 2, none⟩ = some (.slice A1 x.f2.length c1) := by rw [hW0]; first | (simp; done) | (rw [World.cell?_alloc_lt _ _ _ (by first | (simp; done) | (simp; omega))]; first | (simp; done) | (rw [World.cell?_alloc_lt _ _ _ (by first | (simp; done) | (simp; omega))]; simp))
  have c3_ : W0.cell? ⟨w.heap.size, 3, none⟩ = some (.int .i64 0) := by rw [hW0]; first | (simp; done) | (rw [World.cell?_alloc_lt _ _ _ (by first | (simp; done) | (simp; omega))]; first | (simp; done) | (rw [World.cell?_alloc_lt _ _ _ (by first | (simp; done) | (simp; omega))]; simp))
  have c4_ : W0.cell? ⟨w.heap.size, 4, none⟩ = some (.slice none 0 0) := by rw [hW0]; first | (simp; done) | (rw [World.cell?_alloc_lt _ _ _ (by first | (simp; done) | (simp; omega))]; first | (simp; done) | (rw [World.cell?_alloc_lt _ _ _ (by first | (simp; done) | (simp; omega))]; simp))
  have c5_ : W0.cell? ⟨w.heap.size, 5, none⟩ = some (.slice none 0 0) := by rw [hW0]; first | (simp; done) | (rw [World.cell?_alloc_lt _ _ _ (by first | (simp; done) | (simp; omega))]; first | (simp; done) | (rw [World.cell?_alloc_lt _ _ _ (by first | (simp; done) | (simp; omega))]; simp))
  have c6_ : W0.cell? ⟨w.heap.size, 6, none⟩ = some (.slice none 0 0) := by rw [hW0]; first | (simp; done) | (rw [World.cell?_alloc_lt _ _ _ (by first | (simp; done) | (simp; omega))]; first | (simp; done) | (rw [World.cell?_alloc_lt _ _ _ (by first | (simp; done) | (simp; omega))]; simp))
  have Z1 : w.heap.size + 1 < W0.heap.size := by rw [hW0]; simp; try omega
  have c7_ : W0.cell? ⟨w.heap.size + 1, 0, none⟩ = some (.string x.f0) := by rw [hW0]; first | (simp; done) | (rw [World.cell?_alloc_lt _ _ _ (by first | (simp; done) | (simp; omega))]; first | (simp; done) | (rw [World.cell?_alloc_lt _ _ _ (by first | (simp; done) | (simp; omega))]; simp))
  have c8_ : W0.cell? ⟨w.heap.size + 1, 1, none⟩ = some (.slice G0 x.f1.length e0) := by rw [hW0]; first | (simp; done) | (rw [World.cell?_alloc_lt _ _ _ (by first | (simp; done) | (simp; omega))]; first | (simp; done) | (rw [World.cell?_alloc_lt _ _ _ (by first | (simp; done) | (simp; omega))]; simp))
  have c9_ : W0.cell? ⟨w.heap.size + 1, 2, none⟩ = some (.slice G1 x.f2.length e1) := by rw [hW0]; first | (simp; done) | (rw [World.cell?_alloc_lt _ _ _ (by first | (simp; done) | (simp; omega))]; first | (simp; done) | (rw [World.cell?_alloc_lt _ _ _ (by first | (simp; done) | (simp; omega))]; simp))
  have c10_ : W0.cell? ⟨w.heap.size + 1, 3, none⟩ = some (.int .i64 0) := by rw [hW0]; first | (simp; done) | (rw [World.cell?_alloc_lt _ _ _ (by first | (simp; done) | (simp; omega))]; first | (simp; done) | (rw [World.cell?_alloc_lt _ _ _ (by first | (simp; done) | (simp; omega))]; simp))
  have c11_ : W0.cell? ⟨w.heap.size + 1, 4, none⟩ = some (.slice none 0 0) := by rw [hW0]; first | (simp; done) | (rw [World.cell?_alloc_lt _ _ _ (by first | (simp; done) | (simp; omega))]; first | (simp; done) | (rw [World.cell?_alloc_lt _ _ _ (by first | (simp; done) | (simp; omega))]; simp))
  have c12_ : W0.cell? ⟨w.heap.size + 1, 5, none⟩ = some (.slice none 0 0) := by rw [hW0]; first | (simp; done) | (rw [World.cell?_alloc_lt _ _ _ (by first | (simp; done) | (simp; omega))]; first | (simp; done) | (rw [World.cell?_alloc_lt _ _ _ (by first | (simp; done) | (simp; omega))]; simp))
  have c13_ : W0.cell? ⟨w.heap.size + 1, 6, none⟩ = some (.slice none 0 0) := by rw [hW0]; first | (simp; done) | (rw [World.cell?_alloc_lt _ _ _ (by first | (simp; done) | (simp; omega))]; first | (simp; done) | (rw [World.cell?_alloc_lt _ _ _ (by first | (simp; done) | (simp; omega))]; simp))
  have HC : Aside0 (∀ W, Below W0.heap.size W0 W → W.cell? ⟨w.heap.size, 0, none⟩ = some (.string x.f0) ∧ W.cell? ⟨w.heap.size, 1, none⟩ = some (.slice A0 x.f1.length c0) ∧ W.cell? ⟨w.heap.size, 2, none⟩ = some (.slice A1 x.f2.length c1) ∧ W.cell? ⟨w.heap.size, 3, none⟩ = some (.int .i64 0) ∧ W.cell? ⟨w.heap.size, 4, none⟩ = some (.slice none 0 0) ∧ W.cell? ⟨w.heap.size, 5, none⟩ = some (.slice none 0 0) ∧ W.cell? ⟨w.heap.size, 6, none⟩ = some (.slice none 0 0) ∧ W.cell? ⟨w.heap.size + 1, 0, none⟩ = some (.string x.f0) ∧ W.cell? ⟨w.heap.size + 1, 1, none⟩ = some (.slice G0 x.f1.length e0) ∧ W.cell? ⟨w.heap.size + 1, 2, none⟩ = some (.slice G1 x.f2.length e1) ∧ W.cell? ⟨w.heap.size + 1, 3, none⟩ = some (.int .i64 0) ∧ W.cell? ⟨w.heap.size + 1, 4, none⟩ = some (.slice none 0 0) ∧ W.cell? ⟨w.heap.size + 1, 5, none⟩ = some (.slice none 0 0) ∧ W.cell? ⟨w.heap.size + 1, 6, none⟩ = some (.slice none 0 0)) := ⟨fun W h => ⟨(h.cell (p := ⟨w.heap.size, 0, none⟩) Z0).trans c0_, (h.cell (p := ⟨w.heap.size, 1, none⟩) Z0).trans c1_, (h.cell (p := ⟨w.heap.size, 2, none⟩) Z0).trans c2_, (h.cell (p := ⟨w.heap.size, 3, none⟩) Z0).trans c3_, (h.cell (p := ⟨w.heap.size, 4, none⟩) Z0).trans c4_, (h.cell (p := ⟨w.heap.size, 5, none⟩) Z0).trans c5_, (h.cell (p := ⟨w.heap.size, 6, none⟩) Z0).trans c6_, (h.cell (p := ⟨w.heap.size + 1, 0, none⟩) Z1).trans c7_, (h.cell (p := ⟨w.heap.size + 1, 1, none⟩) Z1).trans c8_, (h.cell (p := ⟨w.heap.size + 1, 2, none⟩) Z1).trans c9_, (h.cell (p := ⟨w.heap.size + 1, 3, none⟩) Z1).trans c10_, (h.cell (p := ⟨w.heap.size + 1, 4, none⟩) Z1).trans c11_, (h.cell (p := ⟨w.heap.size + 1, 5, none⟩) Z1).trans c12_, (h.cell (p := ⟨w.heap.size + 1, 6, none⟩) Z1).trans c13_⟩⟩
  clear hW0 c0_ c1_ c2_ c3_ c4_ c5_ c6_ c7_ c8_ c9_ c10_ c11_ c12_ c13_
  have HB0 := Aside0.mk B0
  have hsz := B0.size
  clear B0
  obtain ⟨c0_, c1_, c2_, c3_, c4_, c5_, c6_, c7_, c8_, c9_, c10_, c11_, c12_, c13_⟩ := HC.out _ (Below.refl _ _)
  go_wp2_with (first | (go_at_call 18; with_reducible refine (hc0 _ ?hbel).mono ?_; (case hbel => exact bel_then HB0.out (by (with_reducible repeat (first | exact (Below.refl _ _) | refine bel_alloc ?_ _ | refine bel_set ?_ _ ?_ | refine blw_drewN ?_ _ | refine Below.drew ?_)); all_goals (first | (simp; done) | (simp; omega) | omega))); rintro e w1 ⟨rfl, b1⟩; have B1 : Below W0.heap.size W0 w1 := bel_then (by (with_reducible repeat (first | exact (Below.refl _ _) | refine bel_alloc ?_ _ | refine bel_set ?_ _ ?_ | refine blw_drewN ?_ _ | refine Below.drew ?_)); all_goals (first | (simp; done) | (simp; omega) | omega)) b1; obtain ⟨d00_, d01_, d02_, d03_, d04_, d05_, d06_, d07_, d08_, d09_, d010_, d011_, d012_, d013_⟩ := HC.out _ B1; clear b1) | (go_at_call 48; with_reducible refine (hc1 _ ?hbel).mono ?_; (case hbel => exact bel_then HB0.out (by (with_reducible repeat (first | exact B1 | refine bel_alloc ?_ _ | refine bel_set ?_ _ ?_ | refine blw_drewN ?_ _ | refine Below.drew ?_)); all_goals (first | (simp; done) | (simp; omega) | omega))); rintro e w2 ⟨rfl, b2⟩; have B2 : Below W0.heap.size W0 w2 := bel_then (by (with_reducible repeat (first | exact B1 | refine bel_alloc ?_ _ | refine bel_set ?_ _ ?_ | refine blw_drewN ?_ _ | refine Below.drew ?_)); all_goals (first | (simp; done) | (simp; omega) | omega)) b2; obtain ⟨d10_, d11_, d12_, d13_, d14_, d15_, d16_, d17_, d18_, d19_, d110_, d111_, d112_, d113_⟩ := HC.out _ B2; clear b2) | (go_at_call 56; with_reducible refine (hc2 _ ?hbel).mono ?_; (case hbel => exact bel_then HB0.out (by (with_reducible repeat (first | exact B2 | refine bel_alloc ?_ _ | refine bel_set ?_ _ ?_ | refine blw_drewN ?_ _ | refine Below.drew ?_)); all_goals (first | (simp; done) | (simp; omega) | omega))); rintro e w3 ⟨rfl, b3⟩; have B3 : Below W0.heap.size W0 w3 := bel_then (by (with_reducible repeat (first | exact B2 | refine bel_alloc ?_ _ | refine bel_set ?_ _ ?_ | refine blw_drewN ?_ _ | refine Below.drew ?_)); all_goals (first | (simp; done) | (simp; omega) | omega)) b3; obtain ⟨d20_, d21_, d22_, d23_, d24_, d25_, d26_, d27_, d28_, d29_, d210_, d211_, d212_, d213_⟩ := HC.out _ B3; clear b3))
  go_loopg [5] 1 (fun g v wr => v = .int .i64 0 ∧ Aside0 (Below W0.heap.size W0 wr))
  case atStart => exact ⟨rfl, ⟨B3⟩⟩
  case round =>
    obtain ⟨rfl, BW⟩ := hrel
    obtain ⟨c0_, c1_, c2_, c3_, c4_, c5_, c6_, c7_, c8_, c9_, c10_, c11_, c12_, c13_⟩ := HC.out _ BW.out
    go_wp2
    go_ret
    exact ⟨rfl, bel_then HB0.out BW.out⟩

theorem fitSpool0 : fitSpool ⟨0, []⟩ := ⟨(show (Lit.int .i64 0).wf = true by decide), by simp, fun y hy => by cases hy⟩
theorem spoolOk0 : spoolOk ⟨0, []⟩ = true := by decide
theorem spoolMany0 : spoolMany ⟨0, []⟩ = 0 := by decide
set_option maxRecDepth 100000 in
set_option maxHeartbeats 2000000 in
theorem hostOk0_any (x : SConf) (A0 : Option Addr) (c0 : Nat) (A1 : Option Addr) (c1 : Nat) (w : World) (hw : fitConf x) (hq : confOk x = true) (hr0 : Kd.C Kd.string w A0 x.f1.length x.f1) (hr1 : Kd.C kWay w A1 x.f2.length x.f2) (hG : Glob w) :
    Calls Tryd.prog 16 #[.agg #[.string x.f0, .slice A0 x.f1.length c0, .slice A1 x.f2.length c1, .int .i64 0, .slice none 0 0, .slice none 0 0, .slice none 0 0]] w fun e w' => e = .returned (.bool true) ∧ Below w.heap.size w w' := by
  have hc0 : ∀ W : World, Below w.heap.size w W → Calls Tryd.prog 15 #[.agg #[.string x.f0, .slice A0 x.f1.length c0, .slice A1 x.f2.length c1]] W fun e w' => e = .returned (.bool true) ∧ Below W.heap.size W w' := fun W hW => (by have h := confOk_any x A0 c0 A1 c1 W hw (Kd.C_below hr0 hW) (Kd.C_below hr1 hW) (hG.below hW); rwa [hq] at h)
  have hc1 : ∀ W : World, Below w.heap.size w W → Calls Tryd.prog 23 #[.agg #[.int .i64 0, .slice none 0 0]] W fun e w' => e = .returned (.bool true) ∧ Below W.heap.size W w' := fun W hW => (by have h := spoolOk_any ⟨0, []⟩ none 0 W fitSpool0 (Kd.C_nil _ _) (hG.below hW); rwa [spoolOk0] at h)
  clear hw hr0 hr1 hG hq
  go_enter Tryd.func16, Tryd.ntmps16
  go_wp2_with fail
  obtain ⟨W0, hW0⟩ : ∃ W0, W0 = (w.alloc (.cells #[.string x.f0, .slice A0 x.f1.length c0, .slice A1 x.f2.length c1, .int .i64 0, .slice none 0 0, .slice none 0 0, .slice none 0 0] 34)) := ⟨_, rfl⟩
  rw [← hW0]
  have B0 : Below w.heap.size w W0 := by rw [hW0]; exact (bel_alloc (Below.refl _ _) _)
  have Z0 : w.heap.size < W0.heap.size := by rw [hW0]; simp
  have c0_ : W0.cell? ⟨w.heap.size, 0, none⟩ = some (.string x.f0) := by rw [hW0]; first | (simp; done) | (rw [World.cell?_alloc_lt _ _ _ (by first | (simp; done) | (simp; omega))]; first | (simp; done) | (rw [World.cell?_alloc_lt _ _ _ (by first | (simp; done) | (simp; omega))]; simp))
  have c1_ : W0.cell? ⟨w.heap.size, 1, none⟩ = some (.slice A0 x.f1.length c0) := by rw [hW0]; first | (simp; done) | (rw [World.cell?_alloc_lt _ _ _ (by first | (simp; done) | (simp; omega))]; first | (simp; done) | (rw [World.cell?_alloc_lt _ _ _ (by first | (simp; done) | (simp; omega))]; simp))
  have c2_ : W0.cell? ⟨w.heap.size, 2, none⟩ = some (.slice A1 x.f2.length c1) := by rw [hW0]; first | (simp; done) | (rw [World.cell?_alloc_lt _ _ _ (by first | (simp; done) | (simp; omega))]; first | (simp; done) | (rw [World.cell?_alloc_lt _ _ _ (by first | (simp; done) | (simp; omega))]; simp))
  have c3_ : W0.cell? ⟨w.heap.size, 3, none⟩ = some (.int .i64 0) := by rw [hW0]; first | (simp; done) | (rw [World.cell?_alloc_lt _ _ _ (by first | (simp; done) | (simp; omega))]; first | (simp; done) | (rw [World.cell?_alloc_lt _ _ _ (by first | (simp; done) | (simp; omega))]; simp))
  have c4_ : W0.cell? ⟨w.heap.size, 4, none⟩ = some (.slice none 0 0) := by rw [hW0]; first | (simp; done) | (rw [World.cell?_alloc_lt _ _ _ (by first | (simp; done) | (simp; omega))]; first | (simp; done) | (rw [World.cell?_alloc_lt _ _ _ (by first | (simp; done) | (simp; omega))]; simp))
  have c5_ : W0.cell? ⟨w.heap.size, 5, none⟩ = some (.slice none 0 0) := by rw [hW0]; first | (simp; done) | (rw [World.cell?_alloc_lt _ _ _ (by first | (simp; done) | (simp; omega))]; first | (simp; done) | (rw [World.cell?_alloc_lt _ _ _ (by first | (simp; done) | (simp; omega))]; simp))
  have c6_ : W0.cell? ⟨w.heap.size, 6, none⟩ = some (.slice none 0 0) := by rw [hW0]; first | (simp; done) | (rw [World.cell?_alloc_lt _ _ _ (by first | (simp; done) | (simp; omega))]; first | (simp; done) | (rw [World.cell?_alloc_lt _ _ _ (by first | (simp; done) | (simp; omega))]; simp))
  have HC : Aside0 (∀ W, Below W0.heap.size W0 W → W.cell? ⟨w.heap.size, 0, none⟩ = some (.string x.f0) ∧ W.cell? ⟨w.heap.size, 1, none⟩ = some (.slice A0 x.f1.length c0) ∧ W.cell? ⟨w.heap.size, 2, none⟩ = some (.slice A1 x.f2.length c1) ∧ W.cell? ⟨w.heap.size, 3, none⟩ = some (.int .i64 0) ∧ W.cell? ⟨w.heap.size, 4, none⟩ = some (.slice none 0 0) ∧ W.cell? ⟨w.heap.size, 5, none⟩ = some (.slice none 0 0) ∧ W.cell? ⟨w.heap.size, 6, none⟩ = some (.slice none 0 0)) := ⟨fun W h => ⟨(h.cell (p := ⟨w.heap.size, 0, none⟩) Z0).trans c0_, (h.cell (p := ⟨w.heap.size, 1, none⟩) Z0).trans c1_, (h.cell (p := ⟨w.heap.size, 2, none⟩) Z0).trans c2_, (h.cell (p := ⟨w.heap.size, 3, none⟩) Z0).trans c3_, (h.cell (p := ⟨w.heap.size, 4, none⟩) Z0).trans c4_, (h.cell (p := ⟨w.heap.size, 5, none⟩) Z0).trans c5_, (h.cell (p := ⟨w.heap.size, 6, none⟩) Z0).trans c6_⟩⟩
  clear hW0 c0_ c1_ c2_ c3_ c4_ c5_ c6_
  have HB0 := Aside0.mk B0
  have hsz := B0.size
  clear B0
  obtain ⟨c0_, c1_, c2_, c3_, c4_, c5_, c6_⟩ := HC.out _ (Below.refl _ _)
  go_wp2_with (first | (go_at_call 15; with_reducible refine (hc0 _ ?hbel).mono ?_; (case hbel => exact bel_then HB0.out (by (with_reducible repeat (first | exact (Below.refl _ _) | refine bel_alloc ?_ _ | refine bel_set ?_ _ ?_ | refine blw_drewN ?_ _ | refine Below.drew ?_)); all_goals (first | (simp; done) | (simp; omega) | omega))); rintro e w1 ⟨rfl, b1⟩; have B1 : Below W0.heap.size W0 w1 := bel_then (by (with_reducible repeat (first | exact (Below.refl _ _) | refine bel_alloc ?_ _ | refine bel_set ?_ _ ?_ | refine blw_drewN ?_ _ | refine Below.drew ?_)); all_goals (first | (simp; done) | (simp; omega) | omega)) b1; obtain ⟨d00_, d01_, d02_, d03_, d04_, d05_, d06_⟩ := HC.out _ B1; clear b1) | (go_at_call 23; with_reducible refine (hc1 _ ?hbel).mono ?_; (case hbel => exact bel_then HB0.out (by (with_reducible repeat (first | exact B1 | refine bel_alloc ?_ _ | refine bel_set ?_ _ ?_ | refine blw_drewN ?_ _ | refine Below.drew ?_)); all_goals (first | (simp; done) | (simp; omega) | omega))); rintro e w2 ⟨rfl, b2⟩; have B2 : Below W0.heap.size W0 w2 := bel_then (by (with_reducible repeat (first | exact B1 | refine bel_alloc ?_ _ | refine bel_set ?_ _ ?_ | refine blw_drewN ?_ _ | refine Below.drew ?_)); all_goals (first | (simp; done) | (simp; omega) | omega)) b2; obtain ⟨d10_, d11_, d12_, d13_, d14_, d15_, d16_⟩ := HC.out _ B2; clear b2))
  go_loopg [19] 1 (fun g v wr => v = .int .i64 0 ∧ Aside0 (Below W0.heap.size W0 wr))
  case atStart => exact ⟨rfl, ⟨B2⟩⟩
  case round =>
    obtain ⟨rfl, BW⟩ := hrel
    go_wp2
    go_ret
    exact ⟨rfl, bel_then HB0.out BW.out⟩
end Go.Proofs.YtoppgnmnbbhghaaDoor
