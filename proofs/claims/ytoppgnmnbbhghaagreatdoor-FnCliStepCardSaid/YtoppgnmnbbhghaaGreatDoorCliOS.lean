/- The reference's word on clients, a client's outcomes: contracts. -/
import Derived.Test.YtoppgnmnbbhghaaGreatDoorCliO
import Derived.Test.YtoppgnmnbbhghaaGreatDoorSpecC
namespace Go.Proofs.YtoppgnmnbbhghaaGreatDoor
open Go.RowKit Go.Proofs.YtoppgnmnbbhghaaGreatDoorW.PrintWords
set_option linter.unusedVariables false
set_option linter.unusedSimpArgs false

set_option maxRecDepth 100000 in
set_option maxHeartbeats 8000000 in
theorem specCli_any (c : SCli) (A0 : Option Addr) (c0 : Nat) (A1 : Option Addr) (c1 : Nat) (A2 : Option Addr) (c2 : Nat) (w : World) (hw : fitCli c) (hr0 : Kd.C kAddr w A0 c.f1.f1.length c.f1.f1) (hr1 : Kd.C Kd.string w A1 c.f1.f2.length c.f1.f2) (hr2 : Kd.C (Kd.int .i64) w A2 c.f4.length c.f4) :
    Calls Tryz.prog 35 #[.agg #[.string c.f0, .string c.f1.f0.f0, .string c.f1.f0.f1, .slice A0 c.f1.f1.length c0, .slice A1 c.f1.f2.length c1, .int .i64 c.f2, .int .i64 c.f3, .slice A2 c.f4.length c2]] w fun e w' => e = .returned (.bool (cliOk c)) ∧ Below w.heap.size w w' := by
  obtain ⟨hw0, hw1, hw2, hw3, hw4⟩ := hw
  have h1 := fun W => specDomain_any c.f0 W (by omega)
  have h2 := fun W (hW : Below w.heap.size w W) => specMail_any c.f1 A0 c0 A1 c1 W hw1 (Kd.C_below hr0 hW) (Kd.C_below hr1 hW)
  have h3 := fun W => specIn_any c.f2 0 7 W
  have h4 := fun W => specIn_any c.f3 0 (c.f1.f1.length : Int) W
  have hl4 := hw4.1
  have HM := Lib.hid (show cliOk c = (dom c.f0.data.toList && (mailOkS c.f1 && ((decide (0 ≤ c.f2) && decide (c.f2 ≤ 7)) && ((decide (0 ≤ c.f3) && decide (c.f3 ≤ (c.f1.f1.length : Int))) && ((!(c.f2 == 3) || decide (0 < c.f3)) && (decide (c.f4.length = c.f1.f1.length) && c.f4.all outOk)))))) from rfl)
  clear hw0 hw1 hw2 hw3 hw4 hr0 hr1
  generalize cliOk c = M at HM
  generalize dom c.f0.data.toList = q1 at h1 HM
  generalize mailOkS c.f1 = q2 at h2 HM
  generalize (decide (0 ≤ c.f2) && decide (c.f2 ≤ 7)) = q3 at h3 HM
  generalize (decide (0 ≤ c.f3) && decide (c.f3 ≤ (c.f1.f1.length : Int))) = q4 at h4 HM
  obtain ⟨q6, hq6⟩ : ∃ q, (c.f2 == 3) = q := ⟨_, rfl⟩
  rw [hq6] at HM
  have HS := Lib.hid hq6
  clear hq6
  go_enter Tryz.func35, Tryz.ntmps35
  go_wp2_with fail
  obtain ⟨W0, hW0⟩ : ∃ W0, W0 = w.alloc (.cells #[.string c.f0, .string c.f1.f0.f0, .string c.f1.f0.f1, .slice A0 c.f1.f1.length c0, .slice A1 c.f1.f2.length c1, .int .i64 c.f2, .int .i64 c.f3, .slice A2 c.f4.length c2] 31) := ⟨_, rfl⟩
  rw [← hW0]
  have B0 : Below w.heap.size w W0 := by rw [hW0]; exact (Below.refl _ _).alloc (Nat.le_refl _) _
  have Z0 : w.heap.size < W0.heap.size := by rw [hW0]; simp
  have c0_ : W0.cell? ⟨w.heap.size, 0, none⟩ = some (.string c.f0) := by rw [hW0]; simp
  have c1_ : W0.cell? ⟨w.heap.size, 1, none⟩ = some (.string c.f1.f0.f0) := by rw [hW0]; simp
  have c2_ : W0.cell? ⟨w.heap.size, 2, none⟩ = some (.string c.f1.f0.f1) := by rw [hW0]; simp
  have c3_ : W0.cell? ⟨w.heap.size, 3, none⟩ = some (.slice A0 c.f1.f1.length c0) := by rw [hW0]; simp
  have c4_ : W0.cell? ⟨w.heap.size, 4, none⟩ = some (.slice A1 c.f1.f2.length c1) := by rw [hW0]; simp
  have c5_ : W0.cell? ⟨w.heap.size, 5, none⟩ = some (.int .i64 c.f2) := by rw [hW0]; simp
  have c6_ : W0.cell? ⟨w.heap.size, 6, none⟩ = some (.int .i64 c.f3) := by rw [hW0]; simp
  have c7_ : W0.cell? ⟨w.heap.size, 7, none⟩ = some (.slice A2 c.f4.length c2) := by rw [hW0]; simp
  have HC : Aside0 (∀ W, Below W0.heap.size W0 W → W.cell? ⟨w.heap.size, 0, none⟩ = some (.string c.f0) ∧ W.cell? ⟨w.heap.size, 1, none⟩ = some (.string c.f1.f0.f0) ∧ W.cell? ⟨w.heap.size, 2, none⟩ = some (.string c.f1.f0.f1) ∧ W.cell? ⟨w.heap.size, 3, none⟩ = some (.slice A0 c.f1.f1.length c0) ∧ W.cell? ⟨w.heap.size, 4, none⟩ = some (.slice A1 c.f1.f2.length c1) ∧ W.cell? ⟨w.heap.size, 5, none⟩ = some (.int .i64 c.f2) ∧ W.cell? ⟨w.heap.size, 6, none⟩ = some (.int .i64 c.f3) ∧ W.cell? ⟨w.heap.size, 7, none⟩ = some (.slice A2 c.f4.length c2)) := ⟨fun W h => ⟨(h.cell (p := ⟨w.heap.size, 0, none⟩) Z0).trans c0_, (h.cell (p := ⟨w.heap.size, 1, none⟩) Z0).trans c1_, (h.cell (p := ⟨w.heap.size, 2, none⟩) Z0).trans c2_, (h.cell (p := ⟨w.heap.size, 3, none⟩) Z0).trans c3_, (h.cell (p := ⟨w.heap.size, 4, none⟩) Z0).trans c4_, (h.cell (p := ⟨w.heap.size, 5, none⟩) Z0).trans c5_, (h.cell (p := ⟨w.heap.size, 6, none⟩) Z0).trans c6_, (h.cell (p := ⟨w.heap.size, 7, none⟩) Z0).trans c7_⟩⟩
  clear hW0 c0_ c1_ c2_ c3_ c4_ c5_ c6_ c7_
  have HB0 := Aside0.mk B0
  have hsz := B0.size
  clear B0
  go_loopg [3] (c.f4.length) (fun g v3 wr => ∃ i : Nat, i ≤ c.f4.length ∧ c.f4.length - i ≤ g ∧ v3 = .int .i64 i ∧ Aside0 (Below W0.heap.size W0 wr) ∧ Aside0 (∀ j, j < i → outOk (c.f4.getD j 0) = true))
  case atStart => exact ⟨0, Nat.zero_le _, by omega, rfl, ⟨Below.refl _ _⟩, ⟨fun j hj => absurd hj (Nat.not_lt_zero _)⟩⟩
  case round =>
    obtain ⟨i, hi, hg, rfl, BW, H⟩ := hrel
    obtain ⟨c0_, c1_, c2_, c3_, c4_, c5_, c6_, c7_⟩ := HC.out _ BW.out
    by_cases hlt : i < c.f4.length
    · have hlt' : (i : Int) < (c.f4.length : Int) := by omega
      obtain ⟨ad, e1, p0⟩ := at_Int (Kd.C_below hr2 (bel_then HB0.out BW.out)) i hlt
      subst e1
      generalize hy : c.f4.getD i 0 = y at p0
      have hcall : ∀ W, Calls Tryz.prog 52 #[.int .i64 y, .int .i64 0, .int .i64 4] W fun e w' => e = .returned (.bool (outOk y)) ∧ W = w' := fun W => specIn_any y 0 4 W
      have HY := Lib.hid hy
      clear hy hr2 h1 h2 h3 h4
      cases hq : outOk y
      · rw [hq] at hcall
        have HQ := Lib.hid hq
        clear hq
        go_wp2_with (go_at_call 52; refine (hcall _).mono ?_; rintro e w1 ⟨rfl, rfl⟩)
        go_ret
        refine ⟨retb ?_, bel_then HB0.out BW.out⟩
        rw [HM.out, all_getD_false outOk c.f4 0 i hlt (by rw [HY.out]; exact HQ.out)]
        simp
      · rw [hq] at hcall
        have HQ := Lib.hid hq
        clear hq
        go_wp2_with (go_at_call 52; refine (hcall _).mono ?_; rintro e w1 ⟨rfl, rfl⟩)
        go_roundg (c.f4.length - (i + 1))
        case measure => omega
        case rel => exact ⟨i + 1, by omega, Nat.le_refl _, by go_num, BW, ⟨fun j hj => by
          by_cases e : j = i
          · subst e; rw [HY.out]; exact HQ.out
          · exact H.out j (by omega)⟩⟩
    · have hlt' : ¬ (i : Int) < (c.f4.length : Int) := by omega
      have hall : c.f4.all outOk = true := all_upto _ c.f4 0 (fun j hj => H.out j (by omega))
      rw [hall] at HM
      clear hall hr2
      cases q2
      · have HN := Lib.hid (show M = false by rw [HM.out]; cases q1 <;> rfl)
        go_wp2_with (go_at_call 51; refine (h2 _ (bel_then HB0.out (by (with_reducible repeat (first | exact BW.out | refine bel_alloc ?_ _ | refine bel_set ?_ _ ?_ | refine blw_drewN ?_ _ | refine Below.drew ?_)); all_goals (first | (simp; done) | (simp; omega) | omega)))).mono ?_; rintro e w1 ⟨rfl, b1⟩; have B1 : Below W0.heap.size W0 w1 := bel_then (by (with_reducible repeat (first | exact BW.out | refine bel_alloc ?_ _ | refine bel_set ?_ _ ?_ | refine blw_drewN ?_ _ | refine Below.drew ?_)); all_goals (first | (simp; done) | (simp; omega) | omega)) b1; obtain ⟨d0_, d1_, d2_, d3_, d4_, d5_, d6_, d7_⟩ := HC.out _ B1; clear b1)
        go_ret
        exact ⟨retb (by rw [HN.out]; try (first | rfl | exact decide_eq_false (by omega) | exact decide_eq_true (by omega))), bel_then HB0.out B1⟩
      cases q1
      · have HN := Lib.hid (show M = false from HM.out)
        go_wp2_with (first | (go_at_call 51; refine (h2 _ (bel_then HB0.out (by (with_reducible repeat (first | exact BW.out | refine bel_alloc ?_ _ | refine bel_set ?_ _ ?_ | refine blw_drewN ?_ _ | refine Below.drew ?_)); all_goals (first | (simp; done) | (simp; omega) | omega)))).mono ?_; rintro e w1 ⟨rfl, b1⟩; have B1 : Below W0.heap.size W0 w1 := bel_then (by (with_reducible repeat (first | exact BW.out | refine bel_alloc ?_ _ | refine bel_set ?_ _ ?_ | refine blw_drewN ?_ _ | refine Below.drew ?_)); all_goals (first | (simp; done) | (simp; omega) | omega)) b1; obtain ⟨d0_, d1_, d2_, d3_, d4_, d5_, d6_, d7_⟩ := HC.out _ B1; clear b1) | (go_at_call 80; refine (h1 _).mono ?_; rintro e w2 ⟨rfl, b2⟩; have B2 : Below W0.heap.size W0 w2 := bel_then (by (with_reducible repeat (first | exact B1 | refine bel_alloc ?_ _ | refine bel_set ?_ _ ?_ | refine blw_drewN ?_ _ | refine Below.drew ?_)); all_goals (first | (simp; done) | (simp; omega) | omega)) b2; obtain ⟨n0_, n1_, n2_, n3_, n4_, n5_, n6_, n7_⟩ := HC.out _ B2; clear b2))
        go_ret
        exact ⟨retb (by rw [HN.out]; try (first | rfl | exact decide_eq_false (by omega) | exact decide_eq_true (by omega))), bel_then HB0.out B2⟩
      by_cases hl : c.f4.length = c.f1.f1.length
      rotate_left
      · have HN := Lib.hid (show M = false by rw [HM.out, decide_eq_false hl]; cases q3 <;> cases q4 <;> cases (!q6 || decide (0 < c.f3)) <;> rfl)
        go_wp2_with (first | (go_at_call 51; refine (h2 _ (bel_then HB0.out (by (with_reducible repeat (first | exact BW.out | refine bel_alloc ?_ _ | refine bel_set ?_ _ ?_ | refine blw_drewN ?_ _ | refine Below.drew ?_)); all_goals (first | (simp; done) | (simp; omega) | omega)))).mono ?_; rintro e w1 ⟨rfl, b1⟩; have B1 : Below W0.heap.size W0 w1 := bel_then (by (with_reducible repeat (first | exact BW.out | refine bel_alloc ?_ _ | refine bel_set ?_ _ ?_ | refine blw_drewN ?_ _ | refine Below.drew ?_)); all_goals (first | (simp; done) | (simp; omega) | omega)) b1; obtain ⟨d0_, d1_, d2_, d3_, d4_, d5_, d6_, d7_⟩ := HC.out _ B1; clear b1) | (go_at_call 80; refine (h1 _).mono ?_; rintro e w2 ⟨rfl, b2⟩; have B2 : Below W0.heap.size W0 w2 := bel_then (by (with_reducible repeat (first | exact B1 | refine bel_alloc ?_ _ | refine bel_set ?_ _ ?_ | refine blw_drewN ?_ _ | refine Below.drew ?_)); all_goals (first | (simp; done) | (simp; omega) | omega)) b2; obtain ⟨n0_, n1_, n2_, n3_, n4_, n5_, n6_, n7_⟩ := HC.out _ B2; clear b2))
        go_ret
        exact ⟨retb (by rw [HN.out]; try (first | rfl | exact decide_eq_false (by omega) | exact decide_eq_true (by omega))), bel_then HB0.out B2⟩
      have HN0 := Lib.hid (show M = (q3 && (q4 && (!q6 || decide (0 < c.f3)))) by rw [HM.out, decide_eq_true hl]; cases q3 <;> cases q4 <;> cases (!q6 || decide (0 < c.f3)) <;> rfl)
      cases q3
      · have HN := Lib.hid (show M = false from HN0.out)
        go_wp2_with (first | (go_at_call 51; refine (h2 _ (bel_then HB0.out (by (with_reducible repeat (first | exact BW.out | refine bel_alloc ?_ _ | refine bel_set ?_ _ ?_ | refine blw_drewN ?_ _ | refine Below.drew ?_)); all_goals (first | (simp; done) | (simp; omega) | omega)))).mono ?_; rintro e w1 ⟨rfl, b1⟩; have B1 : Below W0.heap.size W0 w1 := bel_then (by (with_reducible repeat (first | exact BW.out | refine bel_alloc ?_ _ | refine bel_set ?_ _ ?_ | refine blw_drewN ?_ _ | refine Below.drew ?_)); all_goals (first | (simp; done) | (simp; omega) | omega)) b1; obtain ⟨d0_, d1_, d2_, d3_, d4_, d5_, d6_, d7_⟩ := HC.out _ B1; clear b1) | (go_at_call 80; refine (h1 _).mono ?_; rintro e w2 ⟨rfl, b2⟩; have B2 : Below W0.heap.size W0 w2 := bel_then (by (with_reducible repeat (first | exact B1 | refine bel_alloc ?_ _ | refine bel_set ?_ _ ?_ | refine blw_drewN ?_ _ | refine Below.drew ?_)); all_goals (first | (simp; done) | (simp; omega) | omega)) b2; obtain ⟨n0_, n1_, n2_, n3_, n4_, n5_, n6_, n7_⟩ := HC.out _ B2; clear b2) | (go_at_call 52; with_reducible refine (h3 _).mono ?_; rintro e w3 ⟨rfl, rfl⟩; have B3 := B2))
        go_ret
        exact ⟨retb (by rw [HN.out]; try (first | rfl | exact decide_eq_false (by omega) | exact decide_eq_true (by omega))), bel_then HB0.out B3⟩
      cases q4
      · have HN := Lib.hid (show M = false from HN0.out)
        go_wp2_with (first | (go_at_call 51; refine (h2 _ (bel_then HB0.out (by (with_reducible repeat (first | exact BW.out | refine bel_alloc ?_ _ | refine bel_set ?_ _ ?_ | refine blw_drewN ?_ _ | refine Below.drew ?_)); all_goals (first | (simp; done) | (simp; omega) | omega)))).mono ?_; rintro e w1 ⟨rfl, b1⟩; have B1 : Below W0.heap.size W0 w1 := bel_then (by (with_reducible repeat (first | exact BW.out | refine bel_alloc ?_ _ | refine bel_set ?_ _ ?_ | refine blw_drewN ?_ _ | refine Below.drew ?_)); all_goals (first | (simp; done) | (simp; omega) | omega)) b1; obtain ⟨d0_, d1_, d2_, d3_, d4_, d5_, d6_, d7_⟩ := HC.out _ B1; clear b1) | (go_at_call 80; refine (h1 _).mono ?_; rintro e w2 ⟨rfl, b2⟩; have B2 : Below W0.heap.size W0 w2 := bel_then (by (with_reducible repeat (first | exact B1 | refine bel_alloc ?_ _ | refine bel_set ?_ _ ?_ | refine blw_drewN ?_ _ | refine Below.drew ?_)); all_goals (first | (simp; done) | (simp; omega) | omega)) b2; obtain ⟨n0_, n1_, n2_, n3_, n4_, n5_, n6_, n7_⟩ := HC.out _ B2; clear b2) | (go_at_call 52; with_reducible refine (h3 _).mono ?_; rintro e w3 ⟨rfl, rfl⟩; have B3 := B2) | (go_at_call 52; with_reducible refine (h4 _).mono ?_; rintro e w4 ⟨rfl, rfl⟩; have B4 := B3))
        go_ret
        exact ⟨retb (by rw [HN.out]; try (first | rfl | exact decide_eq_false (by omega) | exact decide_eq_true (by omega))), bel_then HB0.out B4⟩
      cases q6
      · have hs : ¬ c.f2 = 3 := by have := HS.out; simpa using this
        have HN := Lib.hid (show M = true from HN0.out)
        go_wp2_with (first | (go_at_call 51; refine (h2 _ (bel_then HB0.out (by (with_reducible repeat (first | exact BW.out | refine bel_alloc ?_ _ | refine bel_set ?_ _ ?_ | refine blw_drewN ?_ _ | refine Below.drew ?_)); all_goals (first | (simp; done) | (simp; omega) | omega)))).mono ?_; rintro e w1 ⟨rfl, b1⟩; have B1 : Below W0.heap.size W0 w1 := bel_then (by (with_reducible repeat (first | exact BW.out | refine bel_alloc ?_ _ | refine bel_set ?_ _ ?_ | refine blw_drewN ?_ _ | refine Below.drew ?_)); all_goals (first | (simp; done) | (simp; omega) | omega)) b1; obtain ⟨d0_, d1_, d2_, d3_, d4_, d5_, d6_, d7_⟩ := HC.out _ B1; clear b1) | (go_at_call 80; refine (h1 _).mono ?_; rintro e w2 ⟨rfl, b2⟩; have B2 : Below W0.heap.size W0 w2 := bel_then (by (with_reducible repeat (first | exact B1 | refine bel_alloc ?_ _ | refine bel_set ?_ _ ?_ | refine blw_drewN ?_ _ | refine Below.drew ?_)); all_goals (first | (simp; done) | (simp; omega) | omega)) b2; obtain ⟨n0_, n1_, n2_, n3_, n4_, n5_, n6_, n7_⟩ := HC.out _ B2; clear b2) | (go_at_call 52; with_reducible refine (h3 _).mono ?_; rintro e w3 ⟨rfl, rfl⟩; have B3 := B2) | (go_at_call 52; with_reducible refine (h4 _).mono ?_; rintro e w4 ⟨rfl, rfl⟩; have B4 := B3))
        go_ret
        exact ⟨retb (by rw [HN.out]; try (first | rfl | exact decide_eq_false (by omega) | exact decide_eq_true (by omega))), bel_then HB0.out B4⟩
      · have hs : c.f2 = 3 := by have := HS.out; simpa using this
        rw [hs] at h3
        by_cases ha : 0 < c.f3
        · have HN := Lib.hid (show M = true by rw [HN0.out, decide_eq_true ha]; rfl)
          go_wp2_with (first | (go_at_call 51; refine (h2 _ (bel_then HB0.out (by (with_reducible repeat (first | exact BW.out | refine bel_alloc ?_ _ | refine bel_set ?_ _ ?_ | refine blw_drewN ?_ _ | refine Below.drew ?_)); all_goals (first | (simp; done) | (simp; omega) | omega)))).mono ?_; rintro e w1 ⟨rfl, b1⟩; have B1 : Below W0.heap.size W0 w1 := bel_then (by (with_reducible repeat (first | exact BW.out | refine bel_alloc ?_ _ | refine bel_set ?_ _ ?_ | refine blw_drewN ?_ _ | refine Below.drew ?_)); all_goals (first | (simp; done) | (simp; omega) | omega)) b1; obtain ⟨d0_, d1_, d2_, d3_, d4_, d5_, d6_, d7_⟩ := HC.out _ B1; clear b1) | (go_at_call 80; refine (h1 _).mono ?_; rintro e w2 ⟨rfl, b2⟩; have B2 : Below W0.heap.size W0 w2 := bel_then (by (with_reducible repeat (first | exact B1 | refine bel_alloc ?_ _ | refine bel_set ?_ _ ?_ | refine blw_drewN ?_ _ | refine Below.drew ?_)); all_goals (first | (simp; done) | (simp; omega) | omega)) b2; obtain ⟨n0_, n1_, n2_, n3_, n4_, n5_, n6_, n7_⟩ := HC.out _ B2; clear b2) | (go_at_call 52; with_reducible refine (h3 _).mono ?_; rintro e w3 ⟨rfl, rfl⟩; have B3 := B2) | (go_at_call 52; with_reducible refine (h4 _).mono ?_; rintro e w4 ⟨rfl, rfl⟩; have B4 := B3))
          go_ret
          exact ⟨retb (by rw [HN.out]; try (first | rfl | exact decide_eq_false (by omega) | exact decide_eq_true (by omega))), bel_then HB0.out B4⟩
        · have HN := Lib.hid (show M = false by rw [HN0.out, decide_eq_false ha]; rfl)
          go_wp2_with (first | (go_at_call 51; refine (h2 _ (bel_then HB0.out (by (with_reducible repeat (first | exact BW.out | refine bel_alloc ?_ _ | refine bel_set ?_ _ ?_ | refine blw_drewN ?_ _ | refine Below.drew ?_)); all_goals (first | (simp; done) | (simp; omega) | omega)))).mono ?_; rintro e w1 ⟨rfl, b1⟩; have B1 : Below W0.heap.size W0 w1 := bel_then (by (with_reducible repeat (first | exact BW.out | refine bel_alloc ?_ _ | refine bel_set ?_ _ ?_ | refine blw_drewN ?_ _ | refine Below.drew ?_)); all_goals (first | (simp; done) | (simp; omega) | omega)) b1; obtain ⟨d0_, d1_, d2_, d3_, d4_, d5_, d6_, d7_⟩ := HC.out _ B1; clear b1) | (go_at_call 80; refine (h1 _).mono ?_; rintro e w2 ⟨rfl, b2⟩; have B2 : Below W0.heap.size W0 w2 := bel_then (by (with_reducible repeat (first | exact B1 | refine bel_alloc ?_ _ | refine bel_set ?_ _ ?_ | refine blw_drewN ?_ _ | refine Below.drew ?_)); all_goals (first | (simp; done) | (simp; omega) | omega)) b2; obtain ⟨n0_, n1_, n2_, n3_, n4_, n5_, n6_, n7_⟩ := HC.out _ B2; clear b2) | (go_at_call 52; with_reducible refine (h3 _).mono ?_; rintro e w3 ⟨rfl, rfl⟩; have B3 := B2) | (go_at_call 52; with_reducible refine (h4 _).mono ?_; rintro e w4 ⟨rfl, rfl⟩; have B4 := B3))
          go_ret
          exact ⟨retb (by rw [HN.out]; try (first | rfl | exact decide_eq_false (by omega) | exact decide_eq_true (by omega))), bel_then HB0.out B4⟩
set_option maxRecDepth 100000 in
set_option maxHeartbeats 8000000 in
theorem specOuts1_any (c : SCli) (A0 : Option Addr) (c0 : Nat) (A1 : Option Addr) (c1 : Nat) (A2 : Option Addr) (c2 : Nat) (w : World) (hl : c.f4.length ≤ 1048576) (hr2 : Kd.C (Kd.int .i64) w A2 c.f4.length c.f4) :
    Calls Tryz.prog 36 #[.agg #[.string c.f0, .string c.f1.f0.f0, .string c.f1.f0.f1, .slice A0 c.f1.f1.length c0, .slice A1 c.f1.f2.length c1, .int .i64 c.f2, .int .i64 c.f3, .slice A2 c.f4.length c2]] w fun e w' => ∃ B d, e = .returned (.slice B (becomes 3 [0, 1] c.f4).length d) ∧ Kd.R (Kd.int .i64) 3 w' w.heap.size (fun _ => True) (.slice B (becomes 3 [0, 1] c.f4).length d) (becomes 3 [0, 1] c.f4) ∧ Below w.heap.size w w' := by
  go_enter Tryz.func36, Tryz.ntmps36
  go_wp2_with fail
  obtain ⟨W0, hW0⟩ : ∃ W0, W0 = w.alloc (.cells #[.string c.f0, .string c.f1.f0.f0, .string c.f1.f0.f1, .slice A0 c.f1.f1.length c0, .slice A1 c.f1.f2.length c1, .int .i64 c.f2, .int .i64 c.f3, .slice A2 c.f4.length c2] 31) := ⟨_, rfl⟩
  rw [← hW0]
  have B0 : Below w.heap.size w W0 := by rw [hW0]; exact (Below.refl _ _).alloc (Nat.le_refl _) _
  have Z0 : w.heap.size < W0.heap.size := by rw [hW0]; simp
  have c0_ : W0.cell? ⟨w.heap.size, 0, none⟩ = some (.string c.f0) := by rw [hW0]; simp
  have c1_ : W0.cell? ⟨w.heap.size, 1, none⟩ = some (.string c.f1.f0.f0) := by rw [hW0]; simp
  have c2_ : W0.cell? ⟨w.heap.size, 2, none⟩ = some (.string c.f1.f0.f1) := by rw [hW0]; simp
  have c3_ : W0.cell? ⟨w.heap.size, 3, none⟩ = some (.slice A0 c.f1.f1.length c0) := by rw [hW0]; simp
  have c4_ : W0.cell? ⟨w.heap.size, 4, none⟩ = some (.slice A1 c.f1.f2.length c1) := by rw [hW0]; simp
  have c5_ : W0.cell? ⟨w.heap.size, 5, none⟩ = some (.int .i64 c.f2) := by rw [hW0]; simp
  have c6_ : W0.cell? ⟨w.heap.size, 6, none⟩ = some (.int .i64 c.f3) := by rw [hW0]; simp
  have c7_ : W0.cell? ⟨w.heap.size, 7, none⟩ = some (.slice A2 c.f4.length c2) := by rw [hW0]; simp
  have HC : Aside0 (∀ W, Below W0.heap.size W0 W → W.cell? ⟨w.heap.size, 0, none⟩ = some (.string c.f0) ∧ W.cell? ⟨w.heap.size, 1, none⟩ = some (.string c.f1.f0.f0) ∧ W.cell? ⟨w.heap.size, 2, none⟩ = some (.string c.f1.f0.f1) ∧ W.cell? ⟨w.heap.size, 3, none⟩ = some (.slice A0 c.f1.f1.length c0) ∧ W.cell? ⟨w.heap.size, 4, none⟩ = some (.slice A1 c.f1.f2.length c1) ∧ W.cell? ⟨w.heap.size, 5, none⟩ = some (.int .i64 c.f2) ∧ W.cell? ⟨w.heap.size, 6, none⟩ = some (.int .i64 c.f3) ∧ W.cell? ⟨w.heap.size, 7, none⟩ = some (.slice A2 c.f4.length c2)) := ⟨fun W h => ⟨(h.cell (p := ⟨w.heap.size, 0, none⟩) Z0).trans c0_, (h.cell (p := ⟨w.heap.size, 1, none⟩) Z0).trans c1_, (h.cell (p := ⟨w.heap.size, 2, none⟩) Z0).trans c2_, (h.cell (p := ⟨w.heap.size, 3, none⟩) Z0).trans c3_, (h.cell (p := ⟨w.heap.size, 4, none⟩) Z0).trans c4_, (h.cell (p := ⟨w.heap.size, 5, none⟩) Z0).trans c5_, (h.cell (p := ⟨w.heap.size, 6, none⟩) Z0).trans c6_, (h.cell (p := ⟨w.heap.size, 7, none⟩) Z0).trans c7_⟩⟩
  have HZE := Lib.hid (show W0.heap.size = w.heap.size + 1 by rw [hW0]; simp)
  clear hW0 c0_ c1_ c2_ c3_ c4_ c5_ c6_ c7_
  have HB0 := Aside0.mk B0
  have hsz := B0.size
  clear B0
  obtain ⟨c0_, c1_, c2_, c3_, c4_, c5_, c6_, c7_⟩ := HC.out _ (Below.refl _ _)
  have BE : Below W0.heap.size W0 (W0.alloc (.cells #[] 3)) := bel_alloc (Below.refl _ _) _
  have HE : Aside0 (Kd.R (Kd.int .i64) 3 (W0.alloc (.cells #[] 3)) W0.heap.size (fun _ => True) (.slice (some ⟨w.heap.size + 1, 0, none⟩) 0 0) []) := ⟨by rw [← HZE.out]; exact R_empty (Kd.int .i64) 3 W0 W0.heap.size (Nat.le_refl _) trivial⟩
  go_wp2
  go_loopg [3, 4, 5] (c.f4.length) (fun g v3 v4 _ wr => ∃ i : Nat, i ≤ c.f4.length ∧ c.f4.length - i ≤ g ∧ v4 = .int .i64 i ∧ Aside0 (Below W0.heap.size W0 wr) ∧ Aside0 (Kd.R (Kd.int .i64) 3 wr W0.heap.size (fun _ => True) v3 (becomes 3 [0, 1] (c.f4.take i))))
  case atStart => exact ⟨0, Nat.zero_le _, by omega, rfl, ⟨BE⟩, HE⟩
  case round =>
    clear HE BE c0_ c1_ c2_ c3_ c4_ c5_ c6_ c7_
    obtain ⟨i, hi, hg, rfl, BW, HO⟩ := hrel
    obtain ⟨c0_, c1_, c2_, c3_, c4_, c5_, c6_, c7_⟩ := HC.out _ BW.out
    by_cases hlt : i < c.f4.length
    · have hlt' : (i : Int) < (c.f4.length : Int) := by omega
      obtain ⟨ad, e1, p0⟩ := at_Int (Kd.C_below hr2 (bel_then HB0.out BW.out)) i hlt
      subst e1
      have hnx := becomes_step 3 [0, 1] c.f4 i hlt
      have hln : (becomes 3 [0, 1] (c.f4.take i)).length ≤ 1048576 := by rw [becomes_length, List.length_take]; omega
      generalize hy : c.f4.getD i 0 = y at p0 hnx
      generalize becomes 3 [0, 1] (c.f4.take i) = ys at HO hnx hln
      obtain ⟨vB, vd, hv⟩ := Kd.R_slice HO.out
      subst hv
      have HN := Lib.hid hnx
      clear hnx hy
      by_cases h0 : y = 0
      · subst h0
        go_wp2_with ((with_reducible refine gate_builtin (b := .append) (xs := #[.tmp 25, .tmp 27]) rfl ?_); (try (refine gate_guard (by rfl) ?_; dsimp only)); at_builtin; (refine Kd.R_append (Kd.int .i64) (w0 := W0) (W0.heap.size) rfl (.tmp 25) (.tmp 27) 29 3 (.int .i64 0) 8 rfl Tryz.underlying29 info3 rfl (by decide) (by omega) (.slice vB ys.length vd) (ys) (3) [.int .i64 3] (fun _ => True) (fun _ => False) rfl rfl rfl (fun _ hk => hk.elim) (fun _ _ => trivial) ?aO9 ?aB9 ?aS9 ?aL9 ?_); (case aB9 => exact (by (with_reducible repeat (first | exact BW.out | refine bel_alloc ?_ _ | refine bel_set ?_ _ ?_ | refine blw_drewN ?_ _ | refine Below.drew ?_)); all_goals (first | (simp; done) | (simp; omega) | omega))); (case aO9 => exact HO.out); (case aS9 => (refine Below.size (B := (W0.heap.size)) (w := W0) ?_; exact (by (with_reducible repeat (first | exact BW.out | refine bel_alloc ?_ _ | refine bel_set ?_ _ ?_ | refine blw_drewN ?_ _ | refine Below.drew ?_)); all_goals (first | (simp; done) | (simp; omega) | omega)))); (case aL9 => exact (by omega)); intro v9 w9 ho hb hg hat; have HO9 := Aside0.mk ho; have B9 := hb;  clear ho hb hg hat)
        go_roundg (c.f4.length - (i + 1))
        case measure => omega
        case rel => exact ⟨i + 1, by omega, Nat.le_refl _, by go_num, ⟨B9⟩, ⟨by rw [HN.out]; exact HO9.out⟩⟩
      · by_cases h1 : y = 1
        · subst h1
          go_wp2_with ((with_reducible refine gate_builtin (b := .append) (xs := #[.tmp 25, .tmp 27]) rfl ?_); (try (refine gate_guard (by rfl) ?_; dsimp only)); at_builtin; (refine Kd.R_append (Kd.int .i64) (w0 := W0) (W0.heap.size) rfl (.tmp 25) (.tmp 27) 29 3 (.int .i64 0) 8 rfl Tryz.underlying29 info3 rfl (by decide) (by omega) (.slice vB ys.length vd) (ys) (3) [.int .i64 3] (fun _ => True) (fun _ => False) rfl rfl rfl (fun _ hk => hk.elim) (fun _ _ => trivial) ?aO9 ?aB9 ?aS9 ?aL9 ?_); (case aB9 => exact (by (with_reducible repeat (first | exact BW.out | refine bel_alloc ?_ _ | refine bel_set ?_ _ ?_ | refine blw_drewN ?_ _ | refine Below.drew ?_)); all_goals (first | (simp; done) | (simp; omega) | omega))); (case aO9 => exact HO.out); (case aS9 => (refine Below.size (B := (W0.heap.size)) (w := W0) ?_; exact (by (with_reducible repeat (first | exact BW.out | refine bel_alloc ?_ _ | refine bel_set ?_ _ ?_ | refine blw_drewN ?_ _ | refine Below.drew ?_)); all_goals (first | (simp; done) | (simp; omega) | omega)))); (case aL9 => exact (by omega)); intro v9 w9 ho hb hg hat; have HO9 := Aside0.mk ho; have B9 := hb;  clear ho hb hg hat)
          go_roundg (c.f4.length - (i + 1))
          case measure => omega
          case rel => exact ⟨i + 1, by omega, Nat.le_refl _, by go_num, ⟨B9⟩, ⟨by rw [HN.out]; exact HO9.out⟩⟩
        · have HH := Lib.hid (show has [0, 1] y = false by simp [has, h0, h1])
          have h2 : (y == 0) = false := by rw [beq_eq_false_iff_ne]; exact h0
          have h3 : (y == 1) = false := by rw [beq_eq_false_iff_ne]; exact h1
          have h4 : (y == 0 || y == 1) = false := by rw [h2, h3]; rfl
          go_wp2_with ((with_reducible refine gate_builtin (b := .append) (xs := #[.tmp 25, .tmp 27]) rfl ?_); (try (refine gate_guard (by rfl) ?_; dsimp only)); at_builtin; (refine Kd.R_append (Kd.int .i64) (w0 := W0) (W0.heap.size) rfl (.tmp 25) (.tmp 27) 29 3 (.int .i64 0) 8 rfl Tryz.underlying29 info3 rfl (by decide) (by omega) (.slice vB ys.length vd) (ys) (y) [.int .i64 y] (fun _ => True) (fun _ => False) rfl rfl rfl (fun _ hk => hk.elim) (fun _ _ => trivial) ?aO9 ?aB9 ?aS9 ?aL9 ?_); (case aB9 => exact (by (with_reducible repeat (first | exact BW.out | refine bel_alloc ?_ _ | refine bel_set ?_ _ ?_ | refine blw_drewN ?_ _ | refine Below.drew ?_)); all_goals (first | (simp; done) | (simp; omega) | omega))); (case aO9 => exact HO.out); (case aS9 => (refine Below.size (B := (W0.heap.size)) (w := W0) ?_; exact (by (with_reducible repeat (first | exact BW.out | refine bel_alloc ?_ _ | refine bel_set ?_ _ ?_ | refine blw_drewN ?_ _ | refine Below.drew ?_)); all_goals (first | (simp; done) | (simp; omega) | omega)))); (case aL9 => exact (by omega)); intro v9 w9 ho hb hg hat; have HO9 := Aside0.mk ho; have B9 := hb;  clear ho hb hg hat)
          go_roundg (c.f4.length - (i + 1))
          case measure => omega
          case rel => exact ⟨i + 1, by omega, Nat.le_refl _, by go_num, ⟨B9⟩, ⟨by rw [HN.out, HH.out]; exact HO9.out⟩⟩
    · have hlt' : ¬ (i : Int) < (c.f4.length : Int) := by omega
      rw [show c.f4.take i = c.f4 from List.take_of_length_le (by omega)] at HO
      obtain ⟨vB, vd, hv⟩ := Kd.R_slice HO.out
      subst hv
      go_wp2
      go_ret
      exact ⟨vB, vd, rfl, Kd.R_lower HO.out (by omega), bel_then HB0.out BW.out⟩
theorem specCliOuts_any (c : SCli) (A0 : Option Addr) (c0 : Nat) (A1 : Option Addr) (c1 : Nat) (A2 : Option Addr) (c2 : Nat) (w : World) (hw : fitCli c) (hr0 : Kd.C kAddr w A0 c.f1.f1.length c.f1.f1) (hr1 : Kd.C Kd.string w A1 c.f1.f2.length c.f1.f2) (hr2 : Kd.C (Kd.int .i64) w A2 c.f4.length c.f4) :
    Calls Tryz.prog 10 #[.agg #[.string c.f0, .string c.f1.f0.f0, .string c.f1.f0.f1, .slice A0 c.f1.f1.length c0, .slice A1 c.f1.f2.length c1, .int .i64 c.f2, .int .i64 c.f3, .slice A2 c.f4.length c2]] w fun e w' => ∃ B d, e = .returned (.slice B (cliOuts c).length d) ∧ Kd.R (Kd.int .i64) 3 w' w.heap.size (fun _ => True) (.slice B (cliOuts c).length d) (cliOuts c) ∧ Below w.heap.size w w' := by
  have h1 := fun W (hW : Below w.heap.size w W) => specCli_any c A0 c0 A1 c1 A2 c2 W hw (Kd.C_below hr0 hW) (Kd.C_below hr1 hW) (Kd.C_below hr2 hW)
  have h2 := fun W (hW : Below w.heap.size w W) => specOuts1_any c A0 c0 A1 c1 A2 c2 W hw.2.2.2.2.1 (Kd.C_below hr2 hW)
  have HM := Lib.hid (show cliOuts c = if cliOk c then becomes 3 [0, 1] c.f4 else [] from rfl)
  clear hw hr0 hr1 hr2
  generalize becomes 3 [0, 1] c.f4 = N at h2 HM
  generalize cliOuts c = M at HM
  generalize cliOk c = q at HM h1
  go_enter Tryz.func10, Tryz.ntmps10
  go_wp2_with fail
  obtain ⟨W0, hW0⟩ : ∃ W0, W0 = w.alloc (.cells #[.string c.f0, .string c.f1.f0.f0, .string c.f1.f0.f1, .slice A0 c.f1.f1.length c0, .slice A1 c.f1.f2.length c1, .int .i64 c.f2, .int .i64 c.f3, .slice A2 c.f4.length c2] 31) := ⟨_, rfl⟩
  rw [← hW0]
  have B0 : Below w.heap.size w W0 := by rw [hW0]; exact (Below.refl _ _).alloc (Nat.le_refl _) _
  have Z0 : w.heap.size < W0.heap.size := by rw [hW0]; simp
  have c0_ : W0.cell? ⟨w.heap.size, 0, none⟩ = some (.string c.f0) := by rw [hW0]; simp
  have c1_ : W0.cell? ⟨w.heap.size, 1, none⟩ = some (.string c.f1.f0.f0) := by rw [hW0]; simp
  have c2_ : W0.cell? ⟨w.heap.size, 2, none⟩ = some (.string c.f1.f0.f1) := by rw [hW0]; simp
  have c3_ : W0.cell? ⟨w.heap.size, 3, none⟩ = some (.slice A0 c.f1.f1.length c0) := by rw [hW0]; simp
  have c4_ : W0.cell? ⟨w.heap.size, 4, none⟩ = some (.slice A1 c.f1.f2.length c1) := by rw [hW0]; simp
  have c5_ : W0.cell? ⟨w.heap.size, 5, none⟩ = some (.int .i64 c.f2) := by rw [hW0]; simp
  have c6_ : W0.cell? ⟨w.heap.size, 6, none⟩ = some (.int .i64 c.f3) := by rw [hW0]; simp
  have c7_ : W0.cell? ⟨w.heap.size, 7, none⟩ = some (.slice A2 c.f4.length c2) := by rw [hW0]; simp
  have HC : Aside0 (∀ W, Below W0.heap.size W0 W → W.cell? ⟨w.heap.size, 0, none⟩ = some (.string c.f0) ∧ W.cell? ⟨w.heap.size, 1, none⟩ = some (.string c.f1.f0.f0) ∧ W.cell? ⟨w.heap.size, 2, none⟩ = some (.string c.f1.f0.f1) ∧ W.cell? ⟨w.heap.size, 3, none⟩ = some (.slice A0 c.f1.f1.length c0) ∧ W.cell? ⟨w.heap.size, 4, none⟩ = some (.slice A1 c.f1.f2.length c1) ∧ W.cell? ⟨w.heap.size, 5, none⟩ = some (.int .i64 c.f2) ∧ W.cell? ⟨w.heap.size, 6, none⟩ = some (.int .i64 c.f3) ∧ W.cell? ⟨w.heap.size, 7, none⟩ = some (.slice A2 c.f4.length c2)) := ⟨fun W h => ⟨(h.cell (p := ⟨w.heap.size, 0, none⟩) Z0).trans c0_, (h.cell (p := ⟨w.heap.size, 1, none⟩) Z0).trans c1_, (h.cell (p := ⟨w.heap.size, 2, none⟩) Z0).trans c2_, (h.cell (p := ⟨w.heap.size, 3, none⟩) Z0).trans c3_, (h.cell (p := ⟨w.heap.size, 4, none⟩) Z0).trans c4_, (h.cell (p := ⟨w.heap.size, 5, none⟩) Z0).trans c5_, (h.cell (p := ⟨w.heap.size, 6, none⟩) Z0).trans c6_, (h.cell (p := ⟨w.heap.size, 7, none⟩) Z0).trans c7_⟩⟩
  clear hW0 c0_ c1_ c2_ c3_ c4_ c5_ c6_ c7_
  have HB0 := Aside0.mk B0
  have hsz := B0.size
  clear B0
  cases q
  · obtain rfl : M = [] := HM.out
    go_wp2_with (go_at_call 35; refine (h1 _ (bel_then HB0.out (by (with_reducible repeat (first | exact (Below.refl _ _) | refine bel_alloc ?_ _ | refine bel_set ?_ _ ?_ | refine blw_drewN ?_ _ | refine Below.drew ?_)); all_goals (first | (simp; done) | (simp; omega) | omega)))).mono ?_; rintro e w1 ⟨rfl, b1⟩; have B1 : Below W0.heap.size W0 w1 := bel_then (by (with_reducible repeat (first | exact (Below.refl _ _) | refine bel_alloc ?_ _ | refine bel_set ?_ _ ?_ | refine blw_drewN ?_ _ | refine Below.drew ?_)); all_goals (first | (simp; done) | (simp; omega) | omega)) b1; obtain ⟨d0_, d1_, d2_, d3_, d4_, d5_, d6_, d7_⟩ := HC.out _ B1; clear b1)
    go_ret
    exact ⟨none, 0, rfl, Kd.R_nil _ _ _ _ _, bel_then HB0.out B1⟩
  · obtain rfl : M = N := HM.out
    go_wp2_with (first | (go_at_call 35; refine (h1 _ (bel_then HB0.out (by (with_reducible repeat (first | exact (Below.refl _ _) | refine bel_alloc ?_ _ | refine bel_set ?_ _ ?_ | refine blw_drewN ?_ _ | refine Below.drew ?_)); all_goals (first | (simp; done) | (simp; omega) | omega)))).mono ?_; rintro e w1 ⟨rfl, b1⟩; have B1 : Below W0.heap.size W0 w1 := bel_then (by (with_reducible repeat (first | exact (Below.refl _ _) | refine bel_alloc ?_ _ | refine bel_set ?_ _ ?_ | refine blw_drewN ?_ _ | refine Below.drew ?_)); all_goals (first | (simp; done) | (simp; omega) | omega)) b1; obtain ⟨d0_, d1_, d2_, d3_, d4_, d5_, d6_, d7_⟩ := HC.out _ B1; clear b1) | (go_at_call 36; refine (h2 _ (bel_then HB0.out (by (with_reducible repeat (first | exact B1 | refine bel_alloc ?_ _ | refine bel_set ?_ _ ?_ | refine blw_drewN ?_ _ | refine Below.drew ?_)); all_goals (first | (simp; done) | (simp; omega) | omega)))).mono ?_; rintro e w2 ⟨vB, vd, rfl, g0, b2⟩; have B2 : Below W0.heap.size W0 w2 := bel_then (by (with_reducible repeat (first | exact B1 | refine bel_alloc ?_ _ | refine bel_set ?_ _ ?_ | refine blw_drewN ?_ _ | refine Below.drew ?_)); all_goals (first | (simp; done) | (simp; omega) | omega)) b2; clear b2))
    go_ret
    exact ⟨vB, vd, rfl, Kd.R_lower g0 (by have := B1.size; omega), bel_then HB0.out B2⟩

end Go.Proofs.YtoppgnmnbbhghaaGreatDoor
