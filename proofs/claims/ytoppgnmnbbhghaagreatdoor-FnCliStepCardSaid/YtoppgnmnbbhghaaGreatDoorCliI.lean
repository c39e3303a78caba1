/- The program's word on clients: a contract. -/
import Derived.Test.YtoppgnmnbbhghaaGreatDoorMailS
import Derived.Test.YtoppgnmnbbhghaaGreatDoorMailB
namespace Go.Proofs.YtoppgnmnbbhghaaGreatDoor
open Go.RowKit Go.Proofs.YtoppgnmnbbhghaaGreatDoorW.PrintWords
set_option linter.unusedVariables false
set_option linter.unusedSimpArgs false
def outOk (n : Int) : Bool := decide (0 ≤ n) && decide (n ≤ 4)
def cliOk (c : SCli) : Bool := dom c.f0.data.toList && (mailOkS c.f1 && ((decide (0 ≤ c.f2) && decide (c.f2 ≤ 7)) && ((decide (0 ≤ c.f3) && decide (c.f3 ≤ (c.f1.f1.length : Int))) && ((!(c.f2 == 3) || decide (0 < c.f3)) && (decide (c.f4.length = c.f1.f1.length) && c.f4.all outOk)))))

theorem CliOk1_any (x : Int) (w : World) : Calls Tryz.prog 37 (#[.int .i64 x] ++ #[]) w fun e w' => e = .returned (.bool (!outOk x)) ∧ Below w.heap.size w w' := by
  have h1 := fun W => within_any x 0 4 W
  unfold outOk
  generalize (decide (0 ≤ x) && decide (x ≤ 4)) = q at h1
  go_enter Tryz.func37, Tryz.ntmps37
  go_wp2_with (go_at_call 38; refine (h1 _).mono ?_; rintro e w1 ⟨rfl, rfl⟩)
  go_ret
  exact ⟨rfl, Below.refl _ _⟩
theorem any_not {α : Type} (p : α → Bool) (xs : List α) : (xs.any fun x => !p x) = !xs.all p := by
  induction xs with
  | nil => rfl
  | cons x r ih => simp [ih, Bool.not_and]
set_option maxRecDepth 100000 in
set_option maxHeartbeats 4000000 in
theorem cliOk_any (c : SCli) (A0 : Option Addr) (c0 : Nat) (A1 : Option Addr) (c1 : Nat) (A2 : Option Addr) (c2 : Nat) (w : World) (hw : fitCli c) (hr0 : Kd.C kAddr w A0 c.f1.f1.length c.f1.f1) (hr1 : Kd.C Kd.string w A1 c.f1.f2.length c.f1.f2) (hr2 : Kd.C (Kd.int .i64) w A2 c.f4.length c.f4) (hG : Glob w) :
    Calls Tryz.prog 11 #[.agg #[.string c.f0, .string c.f1.f0.f0, .string c.f1.f0.f1, .slice A0 c.f1.f1.length c0, .slice A1 c.f1.f2.length c1, .int .i64 c.f2, .int .i64 c.f3, .slice A2 c.f4.length c2]] w fun e w' => e = .returned (.bool (cliOk c)) ∧ Below w.heap.size w w' := by
  obtain ⟨hw0, hw1, hw2, hw3, hw4⟩ := hw
  obtain ⟨hm0, hm1, hm2⟩ := hw1
  have h1 := fun W (hW : Below w.heap.size w W) => DomainOk_any c.f0 W (by omega) (hG.below hW)
  have h2 : ∀ W (hW : Below w.heap.size w W), Calls Tryz.prog 40 #[.agg #[.string c.f1.f0.f0, .string c.f1.f0.f1, .slice A0 c.f1.f1.length c0, .slice A1 c.f1.f2.length c1]] W fun e w' => e = .returned (.bool (mailOkS c.f1)) ∧ Below W.heap.size W w' := fun W hW => MailOk_any c.f1.f0.f0 c.f1.f0.f1 A0 c0 c.f1.f1 A1 c1 c.f1.f2 W (by have := hm0.1; omega) (by have := hm0.2; omega) (Kd.C_below hr0 hW) (by have := hm1.1; omega) (fun x hx => afit_of x (hm1.2 x hx)) (Kd.C_below hr1 hW) (by have := hm2.1; omega) (fun x hx => by have := hm2.2 x hx; omega) (hG.below hW)
  have h3 := fun W => within_any c.f2 0 7 W
  have h4 := fun W => within_any c.f3 0 (c.f1.f1.length : Int) W
  have h5 := fun W (hW : Below w.heap.size w W) => ContainsFunc_Int 37 #[] (fun x => !outOk x) (enters_of Tryz.func37 (by kernel_rfl) rfl) A2 c2 c.f4 W (Kd.C_below hr2 hW) (by have := hw4.1; omega) (fun V x _ _ => CliOk1_any x V)
  rw [any_not] at h5
  have HM := Lib.hid (show cliOk c = (dom c.f0.data.toList && (mailOkS c.f1 && ((decide (0 ≤ c.f2) && decide (c.f2 ≤ 7)) && ((decide (0 ≤ c.f3) && decide (c.f3 ≤ (c.f1.f1.length : Int))) && ((!(c.f2 == 3) || decide (0 < c.f3)) && (decide (c.f4.length = c.f1.f1.length) && c.f4.all outOk)))))) from rfl)
  clear hw0 hw2 hw3 hw4 hm0 hm1 hm2 hr0 hr1 hr2 hG
  generalize cliOk c = M at HM
  generalize dom c.f0.data.toList = q1 at h1 HM
  generalize mailOkS c.f1 = q2 at h2 HM
  generalize (decide (0 ≤ c.f2) && decide (c.f2 ≤ 7)) = q3 at h3 HM
  generalize (decide (0 ≤ c.f3) && decide (c.f3 ≤ (c.f1.f1.length : Int))) = q4 at h4 HM
  generalize c.f4.all outOk = q5 at h5 HM
  obtain ⟨q6, hq6⟩ : ∃ q, (c.f2 == 3) = q := ⟨_, rfl⟩
  rw [hq6] at HM
  have HS := Lib.hid hq6
  clear hq6
  go_enter Tryz.func11, Tryz.ntmps11
  go_wp2_with fail
  obtain ⟨W0, hW0⟩ : ∃ W0, W0 = w.alloc (.cells #[.string c.f0, .string c.f1.f0.f0, .string c.f1.f0.f1, .slice A0 c.f1.f1.length c0, .slice A1 c.f1.f2.length c1, .int .i64 c.f2, .int .i64 c.f3, .slice A2 c.f4.length c2] 31) := ⟨_, rfl⟩
  rw [← hW0]
  have B0 : Below w.heap.size w W0 := by rw [hW0]; exact (Below.refl _ _).alloc (Nat.le_refl _) _
  have Z0 : w.heap.size < W0.heap.size := by rw [hW0]; simp
  have c0_ : W0.cell? ⟨w.heap.size, 0, none⟩ = some (.string c.f0) := by rw [hW0]; simp
  have c1_ : W0.cell? ⟨w.heap.size, 1, none⟩ = some (.string c.f1.f0.f0) := by rw [hW0]; simp
  have c2_ : W0.cell? ⟨w.heap.size, 2, none⟩ = some (.string c.f1.f0.f1) := by rw [hW0]; simp
  have c3_ : W0.cell? ⟨w.heap.size, 3, none⟩ = some (.slice A0 c.f1.f1.length c0) := by rw [hW0]; simp
  have c4_ : W0.cell? ⟨w.heap.size, 4, none⟩ = some (.slice A1 c.f1.f2.length c1) := by rw [hW0]; simp
  have c5_ : W0.cell? ⟨w.heap.size, 5, none⟩ = some (.int .i64 c.f2) := by rw [hW0]; simp
  have c6_ : W0.cell? ⟨w.heap.size, 6, none⟩ = some (.int .i64 c.f3) := by rw [hW0]; simp
  have c7_ : W0.cell? ⟨w.heap.size, 7, none⟩ = some (.slice A2 c.f4.length c2) := by rw [hW0]; simp
  have HC : Aside0 (∀ W, Below W0.heap.size W0 W → W.cell? ⟨w.heap.size, 0, none⟩ = some (.string c.f0) ∧ W.cell? ⟨w.heap.size, 1, none⟩ = some (.string c.f1.f0.f0) ∧ W.cell? ⟨w.heap.size, 2, none⟩ = some (.string c.f1.f0.f1) ∧ W.cell? ⟨w.heap.size, 3, none⟩ = some (.slice A0 c.f1.f1.length c0) ∧ W.cell? ⟨w.heap.size, 4, none⟩ = some (.slice A1 c.f1.f2.length c1) ∧ W.cell? ⟨w.heap.size, 5, none⟩ = some (.int .i64 c.f2) ∧ W.cell? ⟨w.heap.size, 6, none⟩ = some (.int .i64 c.f3) ∧ W.cell? ⟨w.heap.size, 7, none⟩ = some (.slice A2 c.f4.length c2)) := ⟨fun W h => ⟨(h.cell (p := ⟨w.heap.size, 0, none⟩) Z0).trans c0_, (h.cell (p := ⟨w.heap.size, 1, none⟩) Z0).trans c1_, (h.cell (p := ⟨w.heap.size, 2, none⟩) Z0).trans c2_, (h.cell (p := ⟨w.heap.size, 3, none⟩) Z0).trans c3_, (h.cell (p := ⟨w.heap.size, 4, none⟩) Z0).trans c4_, (h.cell (p := ⟨w.heap.size, 5, none⟩) Z0).trans c5_, (h.cell (p := ⟨w.heap.size, 6, none⟩) Z0).trans c6_, (h.cell (p := ⟨w.heap.size, 7, none⟩) Z0).trans c7_⟩⟩
  clear hW0 c0_ c1_ c2_ c3_ c4_ c5_ c6_ c7_
  have HB0 := Aside0.mk B0
  have hsz := B0.size
  clear B0
  cases q1
  · skip
    go_wp2_with (go_at_call 39; refine (h1 _ (bel_then HB0.out (by (with_reducible repeat (first | exact (Below.refl _ _) | refine bel_alloc ?_ _ | refine bel_set ?_ _ ?_ | refine blw_drewN ?_ _ | refine Below.drew ?_)); all_goals (first | (simp; done) | (simp; omega) | omega)))).mono ?_; rintro e w1 ⟨rfl, b1⟩; have B1 : Below W0.heap.size W0 w1 := bel_then (by (with_reducible repeat (first | exact (Below.refl _ _) | refine bel_alloc ?_ _ | refine bel_set ?_ _ ?_ | refine blw_drewN ?_ _ | refine Below.drew ?_)); all_goals (first | (simp; done) | (simp; omega) | omega)) b1; obtain ⟨c0_, c1_, c2_, c3_, c4_, c5_, c6_, c7_⟩ := HC.out _ B1; clear b1)
    go_ret
    exact ⟨retb (by rw [HM.out]; rfl), bel_then HB0.out B1⟩
  cases q2
  · skip
    go_wp2_with (first | (go_at_call 39; refine (h1 _ (bel_then HB0.out (by (with_reducible repeat (first | exact (Below.refl _ _) | refine bel_alloc ?_ _ | refine bel_set ?_ _ ?_ | refine blw_drewN ?_ _ | refine Below.drew ?_)); all_goals (first | (simp; done) | (simp; omega) | omega)))).mono ?_; rintro e w1 ⟨rfl, b1⟩; have B1 : Below W0.heap.size W0 w1 := bel_then (by (with_reducible repeat (first | exact (Below.refl _ _) | refine bel_alloc ?_ _ | refine bel_set ?_ _ ?_ | refine blw_drewN ?_ _ | refine Below.drew ?_)); all_goals (first | (simp; done) | (simp; omega) | omega)) b1; obtain ⟨c0_, c1_, c2_, c3_, c4_, c5_, c6_, c7_⟩ := HC.out _ B1; clear b1) | (go_at_call 40; refine (h2 _ (bel_then HB0.out (by (with_reducible repeat (first | exact B1 | refine bel_alloc ?_ _ | refine bel_set ?_ _ ?_ | refine blw_drewN ?_ _ | refine Below.drew ?_)); all_goals (first | (simp; done) | (simp; omega) | omega)))).mono ?_; rintro e w2 ⟨rfl, b2⟩; have B2 : Below W0.heap.size W0 w2 := bel_then (by (with_reducible repeat (first | exact B1 | refine bel_alloc ?_ _ | refine bel_set ?_ _ ?_ | refine blw_drewN ?_ _ | refine Below.drew ?_)); all_goals (first | (simp; done) | (simp; omega) | omega)) b2; obtain ⟨d0_, d1_, d2_, d3_, d4_, d5_, d6_, d7_⟩ := HC.out _ B2; clear b2))
    go_ret
    exact ⟨retb (by rw [HM.out]; rfl), bel_then HB0.out B2⟩
  cases q3
  · skip
    go_wp2_with (first | (go_at_call 39; refine (h1 _ (bel_then HB0.out (by (with_reducible repeat (first | exact (Below.refl _ _) | refine bel_alloc ?_ _ | refine bel_set ?_ _ ?_ | refine blw_drewN ?_ _ | refine Below.drew ?_)); all_goals (first | (simp; done) | (simp; omega) | omega)))).mono ?_; rintro e w1 ⟨rfl, b1⟩; have B1 : Below W0.heap.size W0 w1 := bel_then (by (with_reducible repeat (first | exact (Below.refl _ _) | refine bel_alloc ?_ _ | refine bel_set ?_ _ ?_ | refine blw_drewN ?_ _ | refine Below.drew ?_)); all_goals (first | (simp; done) | (simp; omega) | omega)) b1; obtain ⟨c0_, c1_, c2_, c3_, c4_, c5_, c6_, c7_⟩ := HC.out _ B1; clear b1) | (go_at_call 40; refine (h2 _ (bel_then HB0.out (by (with_reducible repeat (first | exact B1 | refine bel_alloc ?_ _ | refine bel_set ?_ _ ?_ | refine blw_drewN ?_ _ | refine Below.drew ?_)); all_goals (first | (simp; done) | (simp; omega) | omega)))).mono ?_; rintro e w2 ⟨rfl, b2⟩; have B2 : Below W0.heap.size W0 w2 := bel_then (by (with_reducible repeat (first | exact B1 | refine bel_alloc ?_ _ | refine bel_set ?_ _ ?_ | refine blw_drewN ?_ _ | refine Below.drew ?_)); all_goals (first | (simp; done) | (simp; omega) | omega)) b2; obtain ⟨d0_, d1_, d2_, d3_, d4_, d5_, d6_, d7_⟩ := HC.out _ B2; clear b2) | (go_at_call 38; with_reducible refine (h3 _).mono ?_; rintro e w3 ⟨rfl, rfl⟩; have B3 := B2))
    go_ret
    exact ⟨retb (by rw [HM.out]; rfl), bel_then HB0.out B2⟩
  cases q4
  · skip
    go_wp2_with (first | (go_at_call 39; refine (h1 _ (bel_then HB0.out (by (with_reducible repeat (first | exact (Below.refl _ _) | refine bel_alloc ?_ _ | refine bel_set ?_ _ ?_ | refine blw_drewN ?_ _ | refine Below.drew ?_)); all_goals (first | (simp; done) | (simp; omega) | omega)))).mono ?_; rintro e w1 ⟨rfl, b1⟩; have B1 : Below W0.heap.size W0 w1 := bel_then (by (with_reducible repeat (first | exact (Below.refl _ _) | refine bel_alloc ?_ _ | refine bel_set ?_ _ ?_ | refine blw_drewN ?_ _ | refine Below.drew ?_)); all_goals (first | (simp; done) | (simp; omega) | omega)) b1; obtain ⟨c0_, c1_, c2_, c3_, c4_, c5_, c6_, c7_⟩ := HC.out _ B1; clear b1) | (go_at_call 40; refine (h2 _ (bel_then HB0.out (by (with_reducible repeat (first | exact B1 | refine bel_alloc ?_ _ | refine bel_set ?_ _ ?_ | refine blw_drewN ?_ _ | refine Below.drew ?_)); all_goals (first | (simp; done) | (simp; omega) | omega)))).mono ?_; rintro e w2 ⟨rfl, b2⟩; have B2 : Below W0.heap.size W0 w2 := bel_then (by (with_reducible repeat (first | exact B1 | refine bel_alloc ?_ _ | refine bel_set ?_ _ ?_ | refine blw_drewN ?_ _ | refine Below.drew ?_)); all_goals (first | (simp; done) | (simp; omega) | omega)) b2; obtain ⟨d0_, d1_, d2_, d3_, d4_, d5_, d6_, d7_⟩ := HC.out _ B2; clear b2) | (go_at_call 38; with_reducible refine (h3 _).mono ?_; rintro e w3 ⟨rfl, rfl⟩; have B3 := B2) | (go_at_call 38; with_reducible refine (h4 _).mono ?_; rintro e w4 ⟨rfl, rfl⟩; have B4 := B3))
    go_ret
    exact ⟨retb (by rw [HM.out]; rfl), bel_then HB0.out B3⟩
  cases q6
  · skip
    have hs : ¬ c.f2 = 3 := by have := HS.out; simpa using this
    by_cases hl : c.f4.length = c.f1.f1.length
    · rw [hl] at h5
      rw [decide_eq_true hl] at HM
      cases q5
      · skip
        go_wp2_with (first | (go_at_call 39; refine (h1 _ (bel_then HB0.out (by (with_reducible repeat (first | exact (Below.refl _ _) | refine bel_alloc ?_ _ | refine bel_set ?_ _ ?_ | refine blw_drewN ?_ _ | refine Below.drew ?_)); all_goals (first | (simp; done) | (simp; omega) | omega)))).mono ?_; rintro e w1 ⟨rfl, b1⟩; have B1 : Below W0.heap.size W0 w1 := bel_then (by (with_reducible repeat (first | exact (Below.refl _ _) | refine bel_alloc ?_ _ | refine bel_set ?_ _ ?_ | refine blw_drewN ?_ _ | refine Below.drew ?_)); all_goals (first | (simp; done) | (simp; omega) | omega)) b1; obtain ⟨c0_, c1_, c2_, c3_, c4_, c5_, c6_, c7_⟩ := HC.out _ B1; clear b1) | (go_at_call 40; refine (h2 _ (bel_then HB0.out (by (with_reducible repeat (first | exact B1 | refine bel_alloc ?_ _ | refine bel_set ?_ _ ?_ | refine blw_drewN ?_ _ | refine Below.drew ?_)); all_goals (first | (simp; done) | (simp; omega) | omega)))).mono ?_; rintro e w2 ⟨rfl, b2⟩; have B2 : Below W0.heap.size W0 w2 := bel_then (by (with_reducible repeat (first | exact B1 | refine bel_alloc ?_ _ | refine bel_set ?_ _ ?_ | refine blw_drewN ?_ _ | refine Below.drew ?_)); all_goals (first | (simp; done) | (simp; omega) | omega)) b2; obtain ⟨d0_, d1_, d2_, d3_, d4_, d5_, d6_, d7_⟩ := HC.out _ B2; clear b2) | (go_at_call 38; with_reducible refine (h3 _).mono ?_; rintro e w3 ⟨rfl, rfl⟩; have B3 := B2) | (go_at_call 38; with_reducible refine (h4 _).mono ?_; rintro e w4 ⟨rfl, rfl⟩; have B4 := B3) | (go_at_call 41; refine (h5 _ (bel_then HB0.out (by (with_reducible repeat (first | exact B4 | refine bel_alloc ?_ _ | refine bel_set ?_ _ ?_ | refine blw_drewN ?_ _ | refine Below.drew ?_)); all_goals (first | (simp; done) | (simp; omega) | omega)))).mono ?_; rintro e w5 ⟨rfl, b5⟩; have B5 : Below W0.heap.size W0 w5 := bel_then (by (with_reducible repeat (first | exact B4 | refine bel_alloc ?_ _ | refine bel_set ?_ _ ?_ | refine blw_drewN ?_ _ | refine Below.drew ?_)); all_goals (first | (simp; done) | (simp; omega) | omega)) b5; clear b5))
        go_ret
        exact ⟨retb (by rw [HM.out]; rfl), bel_then HB0.out B5⟩
      · skip
        go_wp2_with (first | (go_at_call 39; refine (h1 _ (bel_then HB0.out (by (with_reducible repeat (first | exact (Below.refl _ _) | refine bel_alloc ?_ _ | refine bel_set ?_ _ ?_ | refine blw_drewN ?_ _ | refine Below.drew ?_)); all_goals (first | (simp; done) | (simp; omega) | omega)))).mono ?_; rintro e w1 ⟨rfl, b1⟩; have B1 : Below W0.heap.size W0 w1 := bel_then (by (with_reducible repeat (first | exact (Below.refl _ _) | refine bel_alloc ?_ _ | refine bel_set ?_ _ ?_ | refine blw_drewN ?_ _ | refine Below.drew ?_)); all_goals (first | (simp; done) | (simp; omega) | omega)) b1; obtain ⟨c0_, c1_, c2_, c3_, c4_, c5_, c6_, c7_⟩ := HC.out _ B1; clear b1) | (go_at_call 40; refine (h2 _ (bel_then HB0.out (by (with_reducible repeat (first | exact B1 | refine bel_alloc ?_ _ | refine bel_set ?_ _ ?_ | refine blw_drewN ?_ _ | refine Below.drew ?_)); all_goals (first | (simp; done) | (simp; omega) | omega)))).mono ?_; rintro e w2 ⟨rfl, b2⟩; have B2 : Below W0.heap.size W0 w2 := bel_then (by (with_reducible repeat (first | exact B1 | refine bel_alloc ?_ _ | refine bel_set ?_ _ ?_ | refine blw_drewN ?_ _ | refine Below.drew ?_)); all_goals (first | (simp; done) | (simp; omega) | omega)) b2; obtain ⟨d0_, d1_, d2_, d3_, d4_, d5_, d6_, d7_⟩ := HC.out _ B2; clear b2) | (go_at_call 38; with_reducible refine (h3 _).mono ?_; rintro e w3 ⟨rfl, rfl⟩; have B3 := B2) | (go_at_call 38; with_reducible refine (h4 _).mono ?_; rintro e w4 ⟨rfl, rfl⟩; have B4 := B3) | (go_at_call 41; refine (h5 _ (bel_then HB0.out (by (with_reducible repeat (first | exact B4 | refine bel_alloc ?_ _ | refine bel_set ?_ _ ?_ | refine blw_drewN ?_ _ | refine Below.drew ?_)); all_goals (first | (simp; done) | (simp; omega) | omega)))).mono ?_; rintro e w5 ⟨rfl, b5⟩; have B5 : Below W0.heap.size W0 w5 := bel_then (by (with_reducible repeat (first | exact B4 | refine bel_alloc ?_ _ | refine bel_set ?_ _ ?_ | refine blw_drewN ?_ _ | refine Below.drew ?_)); all_goals (first | (simp; done) | (simp; omega) | omega)) b5; clear b5))
        go_ret
        exact ⟨retb (by rw [HM.out]; rfl), bel_then HB0.out B5⟩
    · rw [decide_eq_false hl] at HM
      go_wp2_with (first | (go_at_call 39; refine (h1 _ (bel_then HB0.out (by (with_reducible repeat (first | exact (Below.refl _ _) | refine bel_alloc ?_ _ | refine bel_set ?_ _ ?_ | refine blw_drewN ?_ _ | refine Below.drew ?_)); all_goals (first | (simp; done) | (simp; omega) | omega)))).mono ?_; rintro e w1 ⟨rfl, b1⟩; have B1 : Below W0.heap.size W0 w1 := bel_then (by (with_reducible repeat (first | exact (Below.refl _ _) | refine bel_alloc ?_ _ | refine bel_set ?_ _ ?_ | refine blw_drewN ?_ _ | refine Below.drew ?_)); all_goals (first | (simp; done) | (simp; omega) | omega)) b1; obtain ⟨c0_, c1_, c2_, c3_, c4_, c5_, c6_, c7_⟩ := HC.out _ B1; clear b1) | (go_at_call 40; refine (h2 _ (bel_then HB0.out (by (with_reducible repeat (first | exact B1 | refine bel_alloc ?_ _ | refine bel_set ?_ _ ?_ | refine blw_drewN ?_ _ | refine Below.drew ?_)); all_goals (first | (simp; done) | (simp; omega) | omega)))).mono ?_; rintro e w2 ⟨rfl, b2⟩; have B2 : Below W0.heap.size W0 w2 := bel_then (by (with_reducible repeat (first | exact B1 | refine bel_alloc ?_ _ | refine bel_set ?_ _ ?_ | refine blw_drewN ?_ _ | refine Below.drew ?_)); all_goals (first | (simp; done) | (simp; omega) | omega)) b2; obtain ⟨d0_, d1_, d2_, d3_, d4_, d5_, d6_, d7_⟩ := HC.out _ B2; clear b2) | (go_at_call 38; with_reducible refine (h3 _).mono ?_; rintro e w3 ⟨rfl, rfl⟩; have B3 := B2) | (go_at_call 38; with_reducible refine (h4 _).mono ?_; rintro e w4 ⟨rfl, rfl⟩; have B4 := B3))
      go_ret
      exact ⟨retb (by rw [HM.out]; rfl), bel_then HB0.out B4⟩
  · have hs : c.f2 = 3 := by have := HS.out; simpa using this
    rw [hs] at h3
    by_cases ha : 0 < c.f3
    · rw [decide_eq_true ha] at HM
      by_cases hl : c.f4.length = c.f1.f1.length
      · rw [hl] at h5
        rw [decide_eq_true hl] at HM
        cases q5
        · skip
          go_wp2_with (first | (go_at_call 39; refine (h1 _ (bel_then HB0.out (by (with_reducible repeat (first | exact (Below.refl _ _) | refine bel_alloc ?_ _ | refine bel_set ?_ _ ?_ | refine blw_drewN ?_ _ | refine Below.drew ?_)); all_goals (first | (simp; done) | (simp; omega) | omega)))).mono ?_; rintro e w1 ⟨rfl, b1⟩; have B1 : Below W0.heap.size W0 w1 := bel_then (by (with_reducible repeat (first | exact (Below.refl _ _) | refine bel_alloc ?_ _ | refine bel_set ?_ _ ?_ | refine blw_drewN ?_ _ | refine Below.drew ?_)); all_goals (first | (simp; done) | (simp; omega) | omega)) b1; obtain ⟨c0_, c1_, c2_, c3_, c4_, c5_, c6_, c7_⟩ := HC.out _ B1; clear b1) | (go_at_call 40; refine (h2 _ (bel_then HB0.out (by (with_reducible repeat (first | exact B1 | refine bel_alloc ?_ _ | refine bel_set ?_ _ ?_ | refine blw_drewN ?_ _ | refine Below.drew ?_)); all_goals (first | (simp; done) | (simp; omega) | omega)))).mono ?_; rintro e w2 ⟨rfl, b2⟩; have B2 : Below W0.heap.size W0 w2 := bel_then (by (with_reducible repeat (first | exact B1 | refine bel_alloc ?_ _ | refine bel_set ?_ _ ?_ | refine blw_drewN ?_ _ | refine Below.drew ?_)); all_goals (first | (simp; done) | (simp; omega) | omega)) b2; obtain ⟨d0_, d1_, d2_, d3_, d4_, d5_, d6_, d7_⟩ := HC.out _ B2; clear b2) | (go_at_call 38; with_reducible refine (h3 _).mono ?_; rintro e w3 ⟨rfl, rfl⟩; have B3 := B2) | (go_at_call 38; with_reducible refine (h4 _).mono ?_; rintro e w4 ⟨rfl, rfl⟩; have B4 := B3) | (go_at_call 41; refine (h5 _ (bel_then HB0.out (by (with_reducible repeat (first | exact B4 | refine bel_alloc ?_ _ | refine bel_set ?_ _ ?_ | refine blw_drewN ?_ _ | refine Below.drew ?_)); all_goals (first | (simp; done) | (simp; omega) | omega)))).mono ?_; rintro e w5 ⟨rfl, b5⟩; have B5 : Below W0.heap.size W0 w5 := bel_then (by (with_reducible repeat (first | exact B4 | refine bel_alloc ?_ _ | refine bel_set ?_ _ ?_ | refine blw_drewN ?_ _ | refine Below.drew ?_)); all_goals (first | (simp; done) | (simp; omega) | omega)) b5; clear b5))
          go_ret
          exact ⟨retb (by rw [HM.out]; rfl), bel_then HB0.out B5⟩
        · skip
          go_wp2_with (first | (go_at_call 39; refine (h1 _ (bel_then HB0.out (by (with_reducible repeat (first | exact (Below.refl _ _) | refine bel_alloc ?_ _ | refine bel_set ?_ _ ?_ | refine blw_drewN ?_ _ | refine Below.drew ?_)); all_goals (first | (simp; done) | (simp; omega) | omega)))).mono ?_; rintro e w1 ⟨rfl, b1⟩; have B1 : Below W0.heap.size W0 w1 := bel_then (by (with_reducible repeat (first | exact (Below.refl _ _) | refine bel_alloc ?_ _ | refine bel_set ?_ _ ?_ | refine blw_drewN ?_ _ | refine Below.drew ?_)); all_goals (first | (simp; done) | (simp; omega) | omega)) b1; obtain ⟨c0_, c1_, c2_, c3_, c4_, c5_, c6_, c7_⟩ := HC.out _ B1; clear b1) | (go_at_call 40; refine (h2 _ (bel_then HB0.out (by (with_reducible repeat (first | exact B1 | refine bel_alloc ?_ _ | refine bel_set ?_ _ ?_ | refine blw_drewN ?_ _ | refine Below.drew ?_)); all_goals (first | (simp; done) | (simp; omega) | omega)))).mono ?_; rintro e w2 ⟨rfl, b2⟩; have B2 : Below W0.heap.size W0 w2 := bel_then (by (with_reducible repeat (first | exact B1 | refine bel_alloc ?_ _ | refine bel_set ?_ _ ?_ | refine blw_drewN ?_ _ | refine Below.drew ?_)); all_goals (first | (simp; done) | (simp; omega) | omega)) b2; obtain ⟨d0_, d1_, d2_, d3_, d4_, d5_, d6_, d7_⟩ := HC.out _ B2; clear b2) | (go_at_call 38; with_reducible refine (h3 _).mono ?_; rintro e w3 ⟨rfl, rfl⟩; have B3 := B2) | (go_at_call 38; with_reducible refine (h4 _).mono ?_; rintro e w4 ⟨rfl, rfl⟩; have B4 := B3) | (go_at_call 41; refine (h5 _ (bel_then HB0.out (by (with_reducible repeat (first | exact B4 | refine bel_alloc ?_ _ | refine bel_set ?_ _ ?_ | refine blw_drewN ?_ _ | refine Below.drew ?_)); all_goals (first | (simp; done) | (simp; omega) | omega)))).mono ?_; rintro e w5 ⟨rfl, b5⟩; have B5 : Below W0.heap.size W0 w5 := bel_then (by (with_reducible repeat (first | exact B4 | refine bel_alloc ?_ _ | refine bel_set ?_ _ ?_ | refine blw_drewN ?_ _ | refine Below.drew ?_)); all_goals (first | (simp; done) | (simp; omega) | omega)) b5; clear b5))
          go_ret
          exact ⟨retb (by rw [HM.out]; rfl), bel_then HB0.out B5⟩
      · rw [decide_eq_false hl] at HM
        go_wp2_with (first | (go_at_call 39; refine (h1 _ (bel_then HB0.out (by (with_reducible repeat (first | exact (Below.refl _ _) | refine bel_alloc ?_ _ | refine bel_set ?_ _ ?_ | refine blw_drewN ?_ _ | refine Below.drew ?_)); all_goals (first | (simp; done) | (simp; omega) | omega)))).mono ?_; rintro e w1 ⟨rfl, b1⟩; have B1 : Below W0.heap.size W0 w1 := bel_then (by (with_reducible repeat (first | exact (Below.refl _ _) | refine bel_alloc ?_ _ | refine bel_set ?_ _ ?_ | refine blw_drewN ?_ _ | refine Below.drew ?_)); all_goals (first | (simp; done) | (simp; omega) | omega)) b1; obtain ⟨c0_, c1_, c2_, c3_, c4_, c5_, c6_, c7_⟩ := HC.out _ B1; clear b1) | (go_at_call 40; refine (h2 _ (bel_then HB0.out (by (with_reducible repeat (first | exact B1 | refine bel_alloc ?_ _ | refine bel_set ?_ _ ?_ | refine blw_drewN ?_ _ | refine Below.drew ?_)); all_goals (first | (simp; done) | (simp; omega) | omega)))).mono ?_; rintro e w2 ⟨rfl, b2⟩; have B2 : Below W0.heap.size W0 w2 := bel_then (by (with_reducible repeat (first | exact B1 | refine bel_alloc ?_ _ | refine bel_set ?_ _ ?_ | refine blw_drewN ?_ _ | refine Below.drew ?_)); all_goals (first | (simp; done) | (simp; omega) | omega)) b2; obtain ⟨d0_, d1_, d2_, d3_, d4_, d5_, d6_, d7_⟩ := HC.out _ B2; clear b2) | (go_at_call 38; with_reducible refine (h3 _).mono ?_; rintro e w3 ⟨rfl, rfl⟩; have B3 := B2) | (go_at_call 38; with_reducible refine (h4 _).mono ?_; rintro e w4 ⟨rfl, rfl⟩; have B4 := B3))
        go_ret
        exact ⟨retb (by rw [HM.out]; rfl), bel_then HB0.out B4⟩
    · rw [decide_eq_false ha] at HM
      go_wp2_with (first | (go_at_call 39; refine (h1 _ (bel_then HB0.out (by (with_reducible repeat (first | exact (Below.refl _ _) | refine bel_alloc ?_ _ | refine bel_set ?_ _ ?_ | refine blw_drewN ?_ _ | refine Below.drew ?_)); all_goals (first | (simp; done) | (simp; omega) | omega)))).mono ?_; rintro e w1 ⟨rfl, b1⟩; have B1 : Below W0.heap.size W0 w1 := bel_then (by (with_reducible repeat (first | exact (Below.refl _ _) | refine bel_alloc ?_ _ | refine bel_set ?_ _ ?_ | refine blw_drewN ?_ _ | refine Below.drew ?_)); all_goals (first | (simp; done) | (simp; omega) | omega)) b1; obtain ⟨c0_, c1_, c2_, c3_, c4_, c5_, c6_, c7_⟩ := HC.out _ B1; clear b1) | (go_at_call 40; refine (h2 _ (bel_then HB0.out (by (with_reducible repeat (first | exact B1 | refine bel_alloc ?_ _ | refine bel_set ?_ _ ?_ | refine blw_drewN ?_ _ | refine Below.drew ?_)); all_goals (first | (simp; done) | (simp; omega) | omega)))).mono ?_; rintro e w2 ⟨rfl, b2⟩; have B2 : Below W0.heap.size W0 w2 := bel_then (by (with_reducible repeat (first | exact B1 | refine bel_alloc ?_ _ | refine bel_set ?_ _ ?_ | refine blw_drewN ?_ _ | refine Below.drew ?_)); all_goals (first | (simp; done) | (simp; omega) | omega)) b2; obtain ⟨d0_, d1_, d2_, d3_, d4_, d5_, d6_, d7_⟩ := HC.out _ B2; clear b2) | (go_at_call 38; with_reducible refine (h3 _).mono ?_; rintro e w3 ⟨rfl, rfl⟩; have B3 := B2) | (go_at_call 38; with_reducible refine (h4 _).mono ?_; rintro e w4 ⟨rfl, rfl⟩; have B4 := B3))
      go_ret
      exact ⟨retb (by rw [HM.out]; rfl), bel_then HB0.out B4⟩
end Go.Proofs.YtoppgnmnbbhghaaGreatDoor
