/- The program's and the reference's words on hosts: contracts. -/
import Derived.Test.YtoppgnmnbbhghaaDoorSpoolD
import Derived.Test.YtoppgnmnbbhghaaDoorSpecC
namespace Go.Proofs.YtoppgnmnbbhghaaDoor
open Go.RowKit Go.Proofs.YtoppgnmnbbhghaaDoorW.PrintWords
set_option linter.unusedVariables false
set_option linter.unusedSimpArgs false

def domS (s : ByteArray) : Bool := dom s.data.toList
def wayOk (x : SWay) : Bool := domS x.f0 && domS x.f1
def confOk (c : SConf) : Bool := domS c.f0 && (decide (c.f1.length ≤ 3) && (decide (c.f2.length ≤ 4) && (c.f1.all domS && c.f2.all wayOk)))
theorem any_not' {α : Type} (p : α → Bool) (xs : List α) : (xs.any fun x => !p x) = !xs.all p := by
  induction xs with
  | nil => rfl
  | cons x r ih => simp [ih, Bool.not_and]
theorem ConfOk1_any (x : ByteArray) (w : World) (hx : x.size < 4294967281) (hG : Glob w) : Calls Tryd.prog 60 (#[.string x] ++ #[]) w fun e w' => e = .returned (.bool (!domS x)) ∧ Below w.heap.size w w' := by
  have h1 := fun W (hW : Below w.heap.size w W) => DomainOk_any x W hx (hG.below hW)
  unfold domS
  generalize dom x.data.toList = q at h1
  clear hG
  have B0 := Below.refl w.heap.size w
  go_enter Tryd.func60, Tryd.ntmps60
  go_wp2_with (go_at_call 61; refine (h1 _ (by (with_reducible repeat (first | exact B0 | refine bel_alloc ?_ _ | refine bel_set ?_ _ ?_ | refine blw_drewN ?_ _ | refine Below.drew ?_)); all_goals (first | (simp; done) | (simp; omega) | omega))).mono ?_; rintro e w1 ⟨rfl, b1⟩; have B1 : Below w.heap.size w w1 := bel_then (by (with_reducible repeat (first | exact B0 | refine bel_alloc ?_ _ | refine bel_set ?_ _ ?_ | refine blw_drewN ?_ _ | refine Below.drew ?_)); all_goals (first | (simp; done) | (simp; omega) | omega)) b1; clear b1)
  go_ret
  exact ⟨rfl, B1⟩
theorem ConfOk2_any (x : SWay) (w : World) (h0 : x.f0.size < 4294967281) (h1 : x.f1.size < 4294967281) (hG : Glob w) : Calls Tryd.prog 62 (#[.agg #[.string x.f0, .string x.f1]] ++ #[]) w fun e w' => e = .returned (.bool (!wayOk x)) ∧ Below w.heap.size w w' := by
  have hA := fun W (hW : Below w.heap.size w W) => DomainOk_any x.f0 W h0 (hG.below hW)
  have hB := fun W (hW : Below w.heap.size w W) => DomainOk_any x.f1 W h1 (hG.below hW)
  unfold wayOk domS
  generalize dom x.f0.data.toList = q0 at hA
  generalize dom x.f1.data.toList = q1 at hB
  clear hG h0 h1
  have B0 := Below.refl w.heap.size w
  go_enter Tryd.func62, Tryd.ntmps62
  go_wp2_with fail
  obtain ⟨W0, hW0⟩ : ∃ W0, W0 = w.alloc (.cells #[.string x.f0, .string x.f1] 102) := ⟨_, rfl⟩
  rw [← hW0]
  have B0 : Below w.heap.size w W0 := by rw [hW0]; exact (Below.refl _ _).alloc (Nat.le_refl _) _
  have Z0 : w.heap.size < W0.heap.size := by rw [hW0]; simp
  have c0_ : W0.cell? ⟨w.heap.size, 0, none⟩ = some (.string x.f0) := by rw [hW0]; simp
  have c1_ : W0.cell? ⟨w.heap.size, 1, none⟩ = some (.string x.f1) := by rw [hW0]; simp
  have HC : Aside0 (∀ W, Below W0.heap.size W0 W → W.cell? ⟨w.heap.size, 0, none⟩ = some (.string x.f0) ∧ W.cell? ⟨w.heap.size, 1, none⟩ = some (.string x.f1)) := ⟨fun W h => ⟨(h.cell (p := ⟨w.heap.size, 0, none⟩) Z0).trans c0_, (h.cell (p := ⟨w.heap.size, 1, none⟩) Z0).trans c1_⟩⟩
  clear hW0 c0_ c1_
  have HB0 := Aside0.mk B0
  have hsz := B0.size
  clear B0
  cases q0
  · go_wp2_with (go_at_call 61; with_reducible refine (hA _ ?hbel).mono ?_; (case hbel => exact bel_then HB0.out (by (with_reducible repeat (first | exact (Below.refl _ _) | refine bel_alloc ?_ _ | refine bel_set ?_ _ ?_ | refine blw_drewN ?_ _ | refine Below.drew ?_)); all_goals (first | (simp; done) | (simp; omega) | omega))); rintro e w1 ⟨rfl, b1⟩; have B1 : Below W0.heap.size W0 w1 := bel_then (by (with_reducible repeat (first | exact (Below.refl _ _) | refine bel_alloc ?_ _ | refine bel_set ?_ _ ?_ | refine blw_drewN ?_ _ | refine Below.drew ?_)); all_goals (first | (simp; done) | (simp; omega) | omega)) b1; obtain ⟨d0_, d1_⟩ := HC.out _ B1; clear b1)
    go_ret
    exact ⟨rfl, bel_then HB0.out B1⟩
  · cases q1
    all_goals
      go_wp2_with (first | (go_at_call 61; with_reducible refine (hA _ ?hbel).mono ?_; (case hbel => exact bel_then HB0.out (by (with_reducible repeat (first | exact (Below.refl _ _) | refine bel_alloc ?_ _ | refine bel_set ?_ _ ?_ | refine blw_drewN ?_ _ | refine Below.drew ?_)); all_goals (first | (simp; done) | (simp; omega) | omega))); rintro e w1 ⟨rfl, b1⟩; have B1 : Below W0.heap.size W0 w1 := bel_then (by (with_reducible repeat (first | exact (Below.refl _ _) | refine bel_alloc ?_ _ | refine bel_set ?_ _ ?_ | refine blw_drewN ?_ _ | refine Below.drew ?_)); all_goals (first | (simp; done) | (simp; omega) | omega)) b1; obtain ⟨d0_, d1_⟩ := HC.out _ B1; clear b1) | (go_at_call 61; with_reducible refine (hB _ ?hbel).mono ?_; (case hbel => exact bel_then HB0.out (by (with_reducible repeat (first | exact B1 | refine bel_alloc ?_ _ | refine bel_set ?_ _ ?_ | refine blw_drewN ?_ _ | refine Below.drew ?_)); all_goals (first | (simp; done) | (simp; omega) | omega))); rintro e w2 ⟨rfl, b2⟩; have B2 : Below W0.heap.size W0 w2 := bel_then (by (with_reducible repeat (first | exact B1 | refine bel_alloc ?_ _ | refine bel_set ?_ _ ?_ | refine blw_drewN ?_ _ | refine Below.drew ?_)); all_goals (first | (simp; done) | (simp; omega) | omega)) b2; clear b2))
      go_ret
      exact ⟨rfl, bel_then HB0.out B2⟩
set_option maxRecDepth 100000 in
set_option maxHeartbeats 4000000 in
theorem confOk_any (c : SConf) (A0 : Option Addr) (c0 : Nat) (A1 : Option Addr) (c1 : Nat) (w : World) (hw : fitConf c) (hr0 : Kd.C Kd.string w A0 c.f1.length c.f1) (hr1 : Kd.C kWay w A1 c.f2.length c.f2) (hG : Glob w) :
    Calls Tryd.prog 15 #[.agg #[.string c.f0, .slice A0 c.f1.length c0, .slice A1 c.f2.length c1]] w fun e w' => e = .returned (.bool (confOk c)) ∧ Below w.heap.size w w' := by
  obtain ⟨hw0, hw1, hw2⟩ := hw
  have h1 : ∀ W (hW : Below w.heap.size w W), Calls Tryd.prog 61 #[.string c.f0] W fun e w' => e = .returned (.bool (domS c.f0)) ∧ Below W.heap.size W w' := fun W hW => DomainOk_any c.f0 W (by omega) (hG.below hW)
  have h2 := fun W (hW : Below w.heap.size w W) => ContainsFunc_String 60 #[] (fun x => !domS x) (enters_of Tryd.func60 (by kernel_rfl) rfl) A0 c0 c.f1 W (Kd.C_below hr0 hW) (by have := hw1.1; omega) (fun V x hx hv => ConfOk1_any x V (by have := hw1.2 x hx; omega) ((hG.below hW).below hv))
  have h3 := fun W (hW : Below w.heap.size w W) => ContainsFunc_Way 62 #[] (fun x => !wayOk x) (enters_of Tryd.func62 (by kernel_rfl) rfl) A1 c1 c.f2 W (Kd.C_below hr1 hW) (by have := hw2.1; omega) (fun V x hx hv => ConfOk2_any x V (by have := (hw2.2 x hx).1; omega) (by have := (hw2.2 x hx).2; omega) ((hG.below hW).below hv))
  rw [any_not'] at h2 h3
  have HM := Lib.hid (show confOk c = (domS c.f0 && (decide (c.f1.length ≤ 3) && (decide (c.f2.length ≤ 4) && (c.f1.all domS && c.f2.all wayOk)))) from rfl)
  have hl1 := hw1.1
  have hl2 := hw2.1
  clear hw0 hw1 hw2 hr0 hr1 hG
  generalize confOk c = M at HM
  generalize domS c.f0 = q1 at h1 HM
  generalize c.f1.all domS = q4 at h2 HM
  generalize c.f2.all wayOk = q5 at h3 HM
  go_enter Tryd.func15, Tryd.ntmps15
  go_wp2_with fail
  obtain ⟨W0, hW0⟩ : ∃ W0, W0 = w.alloc (.cells #[.string c.f0, .slice A0 c.f1.length c0, .slice A1 c.f2.length c1] 26) := ⟨_, rfl⟩
  rw [← hW0]
  have B0 : Below w.heap.size w W0 := by rw [hW0]; exact (Below.refl _ _).alloc (Nat.le_refl _) _
  have Z0 : w.heap.size < W0.heap.size := by rw [hW0]; simp
  have c0_ : W0.cell? ⟨w.heap.size, 0, none⟩ = some (.string c.f0) := by rw [hW0]; simp
  have c1_ : W0.cell? ⟨w.heap.size, 1, none⟩ = some (.slice A0 c.f1.length c0) := by rw [hW0]; simp
  have c2_ : W0.cell? ⟨w.heap.size, 2, none⟩ = some (.slice A1 c.f2.length c1) := by rw [hW0]; simp
  have HC : Aside0 (∀ W, Below W0.heap.size W0 W → W.cell? ⟨w.heap.size, 0, none⟩ = some (.string c.f0) ∧ W.cell? ⟨w.heap.size, 1, none⟩ = some (.slice A0 c.f1.length c0) ∧ W.cell? ⟨w.heap.size, 2, none⟩ = some (.slice A1 c.f2.length c1)) := ⟨fun W h => ⟨(h.cell (p := ⟨w.heap.size, 0, none⟩) Z0).trans c0_, (h.cell (p := ⟨w.heap.size, 1, none⟩) Z0).trans c1_, (h.cell (p := ⟨w.heap.size, 2, none⟩) Z0).trans c2_⟩⟩
  clear hW0 c0_ c1_ c2_
  have HB0 := Aside0.mk B0
  have hsz := B0.size
  clear B0
  cases q1
  · have HN := Lib.hid (show M = false from HM.out)
    go_wp2_with (go_at_call 61; refine (h1 _ (bel_then HB0.out (by (with_reducible repeat (first | exact (Below.refl _ _) | refine bel_alloc ?_ _ | refine bel_set ?_ _ ?_ | refine blw_drewN ?_ _ | refine Below.drew ?_)); all_goals (first | (simp; done) | (simp; omega) | omega)))).mono ?_; rintro e w1 ⟨rfl, b1⟩; have B1 : Below W0.heap.size W0 w1 := bel_then (by (with_reducible repeat (first | exact (Below.refl _ _) | refine bel_alloc ?_ _ | refine bel_set ?_ _ ?_ | refine blw_drewN ?_ _ | refine Below.drew ?_)); all_goals (first | (simp; done) | (simp; omega) | omega)) b1; obtain ⟨d0_, d1_, d2_⟩ := HC.out _ B1; clear b1)
    go_ret
    exact ⟨retb (by rw [HN.out]; try (first | rfl | exact decide_eq_false (by omega) | exact decide_eq_true (by omega))), bel_then HB0.out B1⟩
  by_cases l1 : c.f1.length ≤ 3
  rotate_left
  · have l1b : ¬ (c.f1.length : Int) ≤ 3 := by omega
    have HN := Lib.hid (show M = false by rw [HM.out, decide_eq_false l1]; rfl)
    go_wp2_with (go_at_call 61; refine (h1 _ (bel_then HB0.out (by (with_reducible repeat (first | exact (Below.refl _ _) | refine bel_alloc ?_ _ | refine bel_set ?_ _ ?_ | refine blw_drewN ?_ _ | refine Below.drew ?_)); all_goals (first | (simp; done) | (simp; omega) | omega)))).mono ?_; rintro e w1 ⟨rfl, b1⟩; have B1 : Below W0.heap.size W0 w1 := bel_then (by (with_reducible repeat (first | exact (Below.refl _ _) | refine bel_alloc ?_ _ | refine bel_set ?_ _ ?_ | refine blw_drewN ?_ _ | refine Below.drew ?_)); all_goals (first | (simp; done) | (simp; omega) | omega)) b1; obtain ⟨d0_, d1_, d2_⟩ := HC.out _ B1; clear b1)
    go_ret
    exact ⟨retb (by rw [HN.out]; try (first | rfl | exact decide_eq_false (by omega) | exact decide_eq_true (by omega))), bel_then HB0.out B1⟩
  have l1b : (c.f1.length : Int) ≤ 3 := by omega
  by_cases l2 : c.f2.length ≤ 4
  rotate_left
  · have l2b : ¬ (c.f2.length : Int) ≤ 4 := by omega
    have HN := Lib.hid (show M = false by rw [HM.out, decide_eq_true l1, decide_eq_false l2]; rfl)
    go_wp2_with (go_at_call 61; refine (h1 _ (bel_then HB0.out (by (with_reducible repeat (first | exact (Below.refl _ _) | refine bel_alloc ?_ _ | refine bel_set ?_ _ ?_ | refine blw_drewN ?_ _ | refine Below.drew ?_)); all_goals (first | (simp; done) | (simp; omega) | omega)))).mono ?_; rintro e w1 ⟨rfl, b1⟩; have B1 : Below W0.heap.size W0 w1 := bel_then (by (with_reducible repeat (first | exact (Below.refl _ _) | refine bel_alloc ?_ _ | refine bel_set ?_ _ ?_ | refine blw_drewN ?_ _ | refine Below.drew ?_)); all_goals (first | (simp; done) | (simp; omega) | omega)) b1; obtain ⟨d0_, d1_, d2_⟩ := HC.out _ B1; clear b1)
    go_ret
    exact ⟨retb (by rw [HN.out]; try (first | rfl | exact decide_eq_false (by omega) | exact decide_eq_true (by omega))), bel_then HB0.out B1⟩
  have l2b : (c.f2.length : Int) ≤ 4 := by omega
  have HN0 := Lib.hid (show M = (q4 && q5) by rw [HM.out, decide_eq_true l1, decide_eq_true l2]; rfl)
  cases q4
  · have HN := Lib.hid (show M = false from HN0.out)
    go_wp2_with (first | (go_at_call 61; refine (h1 _ (bel_then HB0.out (by (with_reducible repeat (first | exact (Below.refl _ _) | refine bel_alloc ?_ _ | refine bel_set ?_ _ ?_ | refine blw_drewN ?_ _ | refine Below.drew ?_)); all_goals (first | (simp; done) | (simp; omega) | omega)))).mono ?_; rintro e w1 ⟨rfl, b1⟩; have B1 : Below W0.heap.size W0 w1 := bel_then (by (with_reducible repeat (first | exact (Below.refl _ _) | refine bel_alloc ?_ _ | refine bel_set ?_ _ ?_ | refine blw_drewN ?_ _ | refine Below.drew ?_)); all_goals (first | (simp; done) | (simp; omega) | omega)) b1; obtain ⟨d0_, d1_, d2_⟩ := HC.out _ B1; clear b1) | (go_at_call 63; refine (h2 _ (bel_then HB0.out (by (with_reducible repeat (first | exact B1 | refine bel_alloc ?_ _ | refine bel_set ?_ _ ?_ | refine blw_drewN ?_ _ | refine Below.drew ?_)); all_goals (first | (simp; done) | (simp; omega) | omega)))).mono ?_; rintro e w2 ⟨rfl, b2⟩; have B2 : Below W0.heap.size W0 w2 := bel_then (by (with_reducible repeat (first | exact B1 | refine bel_alloc ?_ _ | refine bel_set ?_ _ ?_ | refine blw_drewN ?_ _ | refine Below.drew ?_)); all_goals (first | (simp; done) | (simp; omega) | omega)) b2; obtain ⟨n0_, n1_, n2_⟩ := HC.out _ B2; clear b2))
    go_ret
    exact ⟨retb (by rw [HN.out]; try (first | rfl | exact decide_eq_false (by omega) | exact decide_eq_true (by omega))), bel_then HB0.out B2⟩
  cases q5
  · have HN := Lib.hid (show M = false from HN0.out)
    go_wp2_with (first | (go_at_call 61; refine (h1 _ (bel_then HB0.out (by (with_reducible repeat (first | exact (Below.refl _ _) | refine bel_alloc ?_ _ | refine bel_set ?_ _ ?_ | refine blw_drewN ?_ _ | refine Below.drew ?_)); all_goals (first | (simp; done) | (simp; omega) | omega)))).mono ?_; rintro e w1 ⟨rfl, b1⟩; have B1 : Below W0.heap.size W0 w1 := bel_then (by (with_reducible repeat (first | exact (Below.refl _ _) | refine bel_alloc ?_ _ | refine bel_set ?_ _ ?_ | refine blw_drewN ?_ _ | refine Below.drew ?_)); all_goals (first | (simp; done) | (simp; omega) | omega)) b1; obtain ⟨d0_, d1_, d2_⟩ := HC.out _ B1; clear b1) | (go_at_call 63; refine (h2 _ (bel_then HB0.out (by (with_reducible repeat (first | exact B1 | refine bel_alloc ?_ _ | refine bel_set ?_ _ ?_ | refine blw_drewN ?_ _ | refine Below.drew ?_)); all_goals (first | (simp; done) | (simp; omega) | omega)))).mono ?_; rintro e w2 ⟨rfl, b2⟩; have B2 : Below W0.heap.size W0 w2 := bel_then (by (with_reducible repeat (first | exact B1 | refine bel_alloc ?_ _ | refine bel_set ?_ _ ?_ | refine blw_drewN ?_ _ | refine Below.drew ?_)); all_goals (first | (simp; done) | (simp; omega) | omega)) b2; obtain ⟨n0_, n1_, n2_⟩ := HC.out _ B2; clear b2) | (go_at_call 64; refine (h3 _ (bel_then HB0.out (by (with_reducible repeat (first | exact B2 | refine bel_alloc ?_ _ | refine bel_set ?_ _ ?_ | refine blw_drewN ?_ _ | refine Below.drew ?_)); all_goals (first | (simp; done) | (simp; omega) | omega)))).mono ?_; rintro e w3 ⟨rfl, b3⟩; have B3 : Below W0.heap.size W0 w3 := bel_then (by (with_reducible repeat (first | exact B2 | refine bel_alloc ?_ _ | refine bel_set ?_ _ ?_ | refine blw_drewN ?_ _ | refine Below.drew ?_)); all_goals (first | (simp; done) | (simp; omega) | omega)) b3; clear b3))
    go_ret
    exact ⟨retb (by rw [HN.out]; try (first | rfl | exact decide_eq_false (by omega) | exact decide_eq_true (by omega))), bel_then HB0.out B3⟩
  · have HN := Lib.hid (show M = true from HN0.out)
    go_wp2_with (first | (go_at_call 61; refine (h1 _ (bel_then HB0.out (by (with_reducible repeat (first | exact (Below.refl _ _) | refine bel_alloc ?_ _ | refine bel_set ?_ _ ?_ | refine blw_drewN ?_ _ | refine Below.drew ?_)); all_goals (first | (simp; done) | (simp; omega) | omega)))).mono ?_; rintro e w1 ⟨rfl, b1⟩; have B1 : Below W0.heap.size W0 w1 := bel_then (by (with_reducible repeat (first | exact (Below.refl _ _) | refine bel_alloc ?_ _ | refine bel_set ?_ _ ?_ | refine blw_drewN ?_ _ | refine Below.drew ?_)); all_goals (first | (simp; done) | (simp; omega) | omega)) b1; obtain ⟨d0_, d1_, d2_⟩ := HC.out _ B1; clear b1) | (go_at_call 63; refine (h2 _ (bel_then HB0.out (by (with_reducible repeat (first | exact B1 | refine bel_alloc ?_ _ | refine bel_set ?_ _ ?_ | refine blw_drewN ?_ _ | refine Below.drew ?_)); all_goals (first | (simp; done) | (simp; omega) | omega)))).mono ?_; rintro e w2 ⟨rfl, b2⟩; have B2 : Below W0.heap.size W0 w2 := bel_then (by (with_reducible repeat (first | exact B1 | refine bel_alloc ?_ _ | refine bel_set ?_ _ ?_ | refine blw_drewN ?_ _ | refine Below.drew ?_)); all_goals (first | (simp; done) | (simp; omega) | omega)) b2; obtain ⟨n0_, n1_, n2_⟩ := HC.out _ B2; clear b2) | (go_at_call 64; refine (h3 _ (bel_then HB0.out (by (with_reducible repeat (first | exact B2 | refine bel_alloc ?_ _ | refine bel_set ?_ _ ?_ | refine blw_drewN ?_ _ | refine Below.drew ?_)); all_goals (first | (simp; done) | (simp; omega) | omega)))).mono ?_; rintro e w3 ⟨rfl, b3⟩; have B3 : Below W0.heap.size W0 w3 := bel_then (by (with_reducible repeat (first | exact B2 | refine bel_alloc ?_ _ | refine bel_set ?_ _ ?_ | refine blw_drewN ?_ _ | refine Below.drew ?_)); all_goals (first | (simp; done) | (simp; omega) | omega)) b3; clear b3))
    go_ret
    exact ⟨retb (by rw [HN.out]; try (first | rfl | exact decide_eq_false (by omega) | exact decide_eq_true (by omega))), bel_then HB0.out B3⟩
set_option maxRecDepth 100000 in
set_option maxHeartbeats 8000000 in
theorem specConf_any (c : SConf) (A0 : Option Addr) (c0 : Nat) (A1 : Option Addr) (c1 : Nat) (w : World) (hw : fitConf c) (hr0 : Kd.C Kd.string w A0 c.f1.length c.f1) (hr1 : Kd.C kWay w A1 c.f2.length c.f2) :
    Calls Tryd.prog 58 #[.agg #[.string c.f0, .slice A0 c.f1.length c0, .slice A1 c.f2.length c1]] w fun e w' => e = .returned (.bool (confOk c)) ∧ Below w.heap.size w w' := by
  obtain ⟨hw0, hw1, hw2⟩ := hw
  have h1 : ∀ W, Calls Tryd.prog 124 #[.string c.f0] W fun e w' => e = .returned (.bool (domS c.f0)) ∧ Below W.heap.size W w' := fun W => specDomain_any c.f0 W (by omega)
  have HM := Lib.hid (show confOk c = (domS c.f0 && (decide (c.f1.length ≤ 3) && (decide (c.f2.length ≤ 4) && (c.f1.all domS && c.f2.all wayOk)))) from rfl)
  have hl1 := hw1.1
  have hl2 := hw2.1
  have HX1 := Lib.hid hw1.2
  have HX2 := Lib.hid hw2.2
  clear hw0 hw1 hw2
  generalize confOk c = M at HM
  generalize domS c.f0 = q1 at h1 HM
  go_enter Tryd.func58, Tryd.ntmps58
  go_wp2_with fail
  obtain ⟨W0, hW0⟩ : ∃ W0, W0 = w.alloc (.cells #[.string c.f0, .slice A0 c.f1.length c0, .slice A1 c.f2.length c1] 26) := ⟨_, rfl⟩
  rw [← hW0]
  have B0 : Below w.heap.size w W0 := by rw [hW0]; exact (Below.refl _ _).alloc (Nat.le_refl _) _
  have Z0 : w.heap.size < W0.heap.size := by rw [hW0]; simp
  have c0_ : W0.cell? ⟨w.heap.size, 0, none⟩ = some (.string c.f0) := by rw [hW0]; simp
  have c1_ : W0.cell? ⟨w.heap.size, 1, none⟩ = some (.slice A0 c.f1.length c0) := by rw [hW0]; simp
  have c2_ : W0.cell? ⟨w.heap.size, 2, none⟩ = some (.slice A1 c.f2.length c1) := by rw [hW0]; simp
  have HC : Aside0 (∀ W, Below W0.heap.size W0 W → W.cell? ⟨w.heap.size, 0, none⟩ = some (.string c.f0) ∧ W.cell? ⟨w.heap.size, 1, none⟩ = some (.slice A0 c.f1.length c0) ∧ W.cell? ⟨w.heap.size, 2, none⟩ = some (.slice A1 c.f2.length c1)) := ⟨fun W h => ⟨(h.cell (p := ⟨w.heap.size, 0, none⟩) Z0).trans c0_, (h.cell (p := ⟨w.heap.size, 1, none⟩) Z0).trans c1_, (h.cell (p := ⟨w.heap.size, 2, none⟩) Z0).trans c2_⟩⟩
  clear hW0 c0_ c1_ c2_
  have HB0 := Aside0.mk B0
  have hsz := B0.size
  clear B0
  go_loopg [3] (c.f1.length) (fun g v3 wr => ∃ i : Nat, i ≤ c.f1.length ∧ c.f1.length - i ≤ g ∧ v3 = .int .i64 i ∧ Aside0 (Below W0.heap.size W0 wr) ∧ Aside0 (∀ j, j < i → domS (c.f1.getD j ⟨#[]⟩) = true))
  case atStart => exact ⟨0, Nat.zero_le _, by omega, rfl, ⟨Below.refl _ _⟩, ⟨fun j hj => absurd hj (Nat.not_lt_zero _)⟩⟩
  case round =>
    obtain ⟨i, hi, hg, rfl, BW, H⟩ := hrel
    obtain ⟨c0_, c1_, c2_⟩ := HC.out _ BW.out
    by_cases hlt : i < c.f1.length
    · have hlt' : (i : Int) < (c.f1.length : Int) := by omega
      obtain ⟨ad, e1, p0⟩ := at_Str (Kd.C_below hr0 (bel_then HB0.out BW.out)) i hlt
      subst e1
      have hm := HX1.out _ (getD_mem c.f1 ⟨#[]⟩ hlt)
      generalize hy : c.f1.getD i (⟨#[]⟩ : ByteArray) = y at p0 hm
      have hcall : ∀ W, Calls Tryd.prog 124 #[.string y] W fun e w' => e = .returned (.bool (domS y)) ∧ Below W.heap.size W w' := fun W => specDomain_any y W (by omega)
      have HY := Lib.hid hy
      clear hy hm hr0 hr1 h1
      cases hq : domS y
      · rw [hq] at hcall
        have HQ := Lib.hid hq
        clear hq
        go_wp2_with (go_at_call 124; with_reducible refine (hcall _).mono ?_; rintro e w1 ⟨rfl, b1⟩; have B1 : Below W0.heap.size W0 w1 := bel_then (by (with_reducible repeat (first | exact BW.out | refine bel_alloc ?_ _ | refine bel_set ?_ _ ?_ | refine blw_drewN ?_ _ | refine Below.drew ?_)); all_goals (first | (simp; done) | (simp; omega) | omega)) b1; obtain ⟨d0_, d1_, d2_⟩ := HC.out _ B1; clear b1)
        go_ret
        refine ⟨retb ?_, bel_then HB0.out B1⟩
        rw [HM.out, all_getD_false domS c.f1 ⟨#[]⟩ i hlt (by rw [HY.out]; exact HQ.out)]
        simp
      · rw [hq] at hcall
        have HQ := Lib.hid hq
        clear hq
        go_wp2_with (go_at_call 124; with_reducible refine (hcall _).mono ?_; rintro e w1 ⟨rfl, b1⟩; have B1 : Below W0.heap.size W0 w1 := bel_then (by (with_reducible repeat (first | exact BW.out | refine bel_alloc ?_ _ | refine bel_set ?_ _ ?_ | refine blw_drewN ?_ _ | refine Below.drew ?_)); all_goals (first | (simp; done) | (simp; omega) | omega)) b1; obtain ⟨d0_, d1_, d2_⟩ := HC.out _ B1; clear b1)
        go_roundg (c.f1.length - (i + 1))
        case measure => omega
        case rel => exact ⟨i + 1, by omega, Nat.le_refl _, by go_num, ⟨B1⟩, ⟨fun j hj => by
          by_cases e : j = i
          · subst e; rw [HY.out]; exact HQ.out
          · exact H.out j (by omega)⟩⟩
    · have hlt' : ¬ (i : Int) < (c.f1.length : Int) := by omega
      have hall : c.f1.all domS = true := all_upto _ c.f1 ⟨#[]⟩ (fun j hj => H.out j (by omega))
      have HM1 := Lib.hid (show M = (q1 && (decide (c.f1.length ≤ 3) && (decide (c.f2.length ≤ 4) && c.f2.all wayOk))) by rw [HM.out, hall]; simp)
      clear hall hr0 H HM
      go_wp2
      clear c0_ c1_ c2_
      go_loopg [4] (c.f2.length) (fun g v4 wr => ∃ i : Nat, i ≤ c.f2.length ∧ c.f2.length - i ≤ g ∧ v4 = .int .i64 i ∧ Aside0 (Below W0.heap.size W0 wr) ∧ Aside0 (∀ j, j < i → wayOk (c.f2.getD j zWay) = true))
      case atStart => exact ⟨0, Nat.zero_le _, by omega, rfl, BW, ⟨fun j hj => absurd hj (Nat.not_lt_zero _)⟩⟩
      case round =>
        clear BW
        obtain ⟨k, hk, hgk, rfl, BV, H⟩ := hrel
        obtain ⟨c0_, c1_, c2_⟩ := HC.out _ BV.out
        by_cases hlk : k < c.f2.length
        · have hlk' : (k : Int) < (c.f2.length : Int) := by omega
          obtain ⟨ad, e1, p0, p1⟩ := at_Way (Kd.C_below hr1 (bel_then HB0.out BV.out)) k hlk
          subst e1
          have hm := HX2.out _ (getD_mem c.f2 zWay hlk)
          generalize hy : c.f2.getD k zWay = y at p0 p1 hm
          have hcall : ∀ W, Calls Tryd.prog 124 #[.string y.f0] W fun e w' => e = .returned (.bool (domS y.f0)) ∧ Below W.heap.size W w' := fun W => specDomain_any y.f0 W (by have := hm.1; omega)
          have hcall2 : ∀ W, Calls Tryd.prog 124 #[.string y.f1] W fun e w' => e = .returned (.bool (domS y.f1)) ∧ Below W.heap.size W w' := fun W => specDomain_any y.f1 W (by have := hm.2; omega)
          have HY := Lib.hid hy
          have HW := Lib.hid (show wayOk y = (domS y.f0 && domS y.f1) from rfl)
          have BW := BV
          have PP := Lib.hid (Kd.C_below hr1 (bel_then HB0.out BV.out))
          clear hy hm hr1 h1
          generalize domS y.f0 = q2 at hcall HW
          generalize domS y.f1 = q3 at hcall2 HW
          cases q2
          · go_wp2_with (go_at_call 124; with_reducible refine (hcall _).mono ?_; rintro e w1 ⟨rfl, b1⟩; have B1 : Below W0.heap.size W0 w1 := bel_then (by (with_reducible repeat (first | exact BW.out | refine bel_alloc ?_ _ | refine bel_set ?_ _ ?_ | refine blw_drewN ?_ _ | refine Below.drew ?_)); all_goals (first | (simp; done) | (simp; omega) | omega)) b1; obtain ⟨d0_, d1_, d2_⟩ := HC.out _ B1; clear b1)
            go_ret
            refine ⟨retb ?_, bel_then HB0.out B1⟩
            rw [HM1.out, all_getD_false wayOk c.f2 zWay k hlk (by rw [HY.out, HW.out]; rfl)]
            simp
          · cases q3
            · go_wp2_with (first | (go_at_call 124; with_reducible refine (hcall _).mono ?_; rintro e w1 ⟨rfl, b1⟩; have B1 : Below W0.heap.size W0 w1 := bel_then (by (with_reducible repeat (first | exact BW.out | refine bel_alloc ?_ _ | refine bel_set ?_ _ ?_ | refine blw_drewN ?_ _ | refine Below.drew ?_)); all_goals (first | (simp; done) | (simp; omega) | omega)) b1; obtain ⟨d0_, d1_, d2_⟩ := HC.out _ B1; have PQ := Kd.C_below PP.out b1; obtain ⟨ad2, e2, r0_, r1_⟩ := at_Way PQ k hlk; obtain rfl : ad = ad2 := (by injection e2); rw [HY.out] at r0_ r1_; clear PQ e2 b1) | (go_at_call 124; with_reducible refine (hcall2 _).mono ?_; rintro e w2 ⟨rfl, b2⟩; have B2 : Below W0.heap.size W0 w2 := bel_then (by (with_reducible repeat (first | exact B1 | refine bel_alloc ?_ _ | refine bel_set ?_ _ ?_ | refine blw_drewN ?_ _ | refine Below.drew ?_)); all_goals (first | (simp; done) | (simp; omega) | omega)) b2; obtain ⟨n0_, n1_, n2_⟩ := HC.out _ B2; clear b2))
              go_ret
              refine ⟨retb ?_, bel_then HB0.out B2⟩
              rw [HM1.out, all_getD_false wayOk c.f2 zWay k hlk (by rw [HY.out, HW.out]; rfl)]
              simp
            · go_wp2_with (first | (go_at_call 124; with_reducible refine (hcall _).mono ?_; rintro e w1 ⟨rfl, b1⟩; have B1 : Below W0.heap.size W0 w1 := bel_then (by (with_reducible repeat (first | exact BW.out | refine bel_alloc ?_ _ | refine bel_set ?_ _ ?_ | refine blw_drewN ?_ _ | refine Below.drew ?_)); all_goals (first | (simp; done) | (simp; omega) | omega)) b1; obtain ⟨d0_, d1_, d2_⟩ := HC.out _ B1; have PQ := Kd.C_below PP.out b1; obtain ⟨ad2, e2, r0_, r1_⟩ := at_Way PQ k hlk; obtain rfl : ad = ad2 := (by injection e2); rw [HY.out] at r0_ r1_; clear PQ e2 b1) | (go_at_call 124; with_reducible refine (hcall2 _).mono ?_; rintro e w2 ⟨rfl, b2⟩; have B2 : Below W0.heap.size W0 w2 := bel_then (by (with_reducible repeat (first | exact B1 | refine bel_alloc ?_ _ | refine bel_set ?_ _ ?_ | refine blw_drewN ?_ _ | refine Below.drew ?_)); all_goals (first | (simp; done) | (simp; omega) | omega)) b2; obtain ⟨n0_, n1_, n2_⟩ := HC.out _ B2; clear b2))
              go_roundg (c.f2.length - (k + 1))
              case measure => omega
              case rel => exact ⟨k + 1, by omega, Nat.le_refl _, by go_num, ⟨B2⟩, ⟨fun j hj => by
                by_cases e : j = k
                · subst e; rw [HY.out, HW.out]; rfl
                · exact H.out j (by omega)⟩⟩
        · have hlk' : ¬ (k : Int) < (c.f2.length : Int) := by omega
          have hall : c.f2.all wayOk = true := all_upto _ c.f2 zWay (fun j hj => H.out j (by omega))
          have HM2 := Lib.hid (show M = (q1 && (decide (c.f1.length ≤ 3) && decide (c.f2.length ≤ 4))) by rw [HM1.out, hall]; simp)
          clear hall hr1 H HM1
          cases q1
          · have HN := Lib.hid (show M = false from HM2.out)
            go_wp2_with (go_at_call 124; with_reducible refine (h1 _).mono ?_; rintro e w1 ⟨rfl, b1⟩; have B1 : Below W0.heap.size W0 w1 := bel_then (by (with_reducible repeat (first | exact BV.out | refine bel_alloc ?_ _ | refine bel_set ?_ _ ?_ | refine blw_drewN ?_ _ | refine Below.drew ?_)); all_goals (first | (simp; done) | (simp; omega) | omega)) b1; obtain ⟨d0_, d1_, d2_⟩ := HC.out _ B1; clear b1)
            go_ret
            exact ⟨retb (by rw [HN.out]; try (first | rfl | exact decide_eq_false (by omega) | exact decide_eq_true (by omega))), bel_then HB0.out B1⟩
          by_cases l1 : c.f1.length ≤ 3
          rotate_left
          · have l1b : ¬ (c.f1.length : Int) ≤ 3 := by omega
            have HN := Lib.hid (show M = false by rw [HM2.out, decide_eq_false l1]; rfl)
            go_wp2_with (go_at_call 124; with_reducible refine (h1 _).mono ?_; rintro e w1 ⟨rfl, b1⟩; have B1 : Below W0.heap.size W0 w1 := bel_then (by (with_reducible repeat (first | exact BV.out | refine bel_alloc ?_ _ | refine bel_set ?_ _ ?_ | refine blw_drewN ?_ _ | refine Below.drew ?_)); all_goals (first | (simp; done) | (simp; omega) | omega)) b1; obtain ⟨d0_, d1_, d2_⟩ := HC.out _ B1; clear b1)
            go_ret
            exact ⟨retb (by rw [HN.out]; try (first | rfl | exact decide_eq_false (by omega) | exact decide_eq_true (by omega))), bel_then HB0.out B1⟩
          have l1b : (c.f1.length : Int) ≤ 3 := by omega
          by_cases l2 : c.f2.length ≤ 4
          rotate_left
          · have l2b : ¬ (c.f2.length : Int) ≤ 4 := by omega
            have HN := Lib.hid (show M = false by rw [HM2.out, decide_eq_true l1, decide_eq_false l2]; rfl)
            go_wp2_with (go_at_call 124; with_reducible refine (h1 _).mono ?_; rintro e w1 ⟨rfl, b1⟩; have B1 : Below W0.heap.size W0 w1 := bel_then (by (with_reducible repeat (first | exact BV.out | refine bel_alloc ?_ _ | refine bel_set ?_ _ ?_ | refine blw_drewN ?_ _ | refine Below.drew ?_)); all_goals (first | (simp; done) | (simp; omega) | omega)) b1; obtain ⟨d0_, d1_, d2_⟩ := HC.out _ B1; clear b1)
            go_ret
            exact ⟨retb (by rw [HN.out]; try (first | rfl | exact decide_eq_false (by omega) | exact decide_eq_true (by omega))), bel_then HB0.out B1⟩
          have l2b : (c.f2.length : Int) ≤ 4 := by omega
          have HN := Lib.hid (show M = true by rw [HM2.out, decide_eq_true l1, decide_eq_true l2]; rfl)
          go_wp2_with (go_at_call 124; with_reducible refine (h1 _).mono ?_; rintro e w1 ⟨rfl, b1⟩; have B1 : Below W0.heap.size W0 w1 := bel_then (by (with_reducible repeat (first | exact BV.out | refine bel_alloc ?_ _ | refine bel_set ?_ _ ?_ | refine blw_drewN ?_ _ | refine Below.drew ?_)); all_goals (first | (simp; done) | (simp; omega) | omega)) b1; obtain ⟨d0_, d1_, d2_⟩ := HC.out _ B1; clear b1)
          go_ret
          exact ⟨retb (by rw [HN.out]; try (first | rfl | exact decide_eq_false (by omega) | exact decide_eq_true (by omega))), bel_then HB0.out B1⟩

end Go.Proofs.YtoppgnmnbbhghaaDoor
