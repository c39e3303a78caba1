/- SpoolOk of the program; SpoolMany of the program and of the reference: contracts. -/
import Derived.Test.YtiaibgkpohmihaaDoorSpoolI
import Derived.Test.YtiaibgkpohmihaaDoorSpoolS3
namespace Go.Proofs.YtiaibgkpohmihaaDoor
open Go.RowKit Go.Proofs.YtiaibgkpohmihaaDoorW.PrintWords
set_option linter.unusedVariables false
set_option linter.unusedSimpArgs false

set_option maxRecDepth 100000 in
set_option maxHeartbeats 4000000 in
theorem spoolOk_any (s : SSpool) (A0 : Option Addr) (c0 : Nat) (w : World) (hw : fitSpool s) (hr0 : Kd.C kItem w A0 s.f1.length s.f1) (hG : Glob w) :
  Calls Tryd.prog 17 #[.agg #[.int .i64 s.f0, .slice A0 s.f1.length c0]] w fun e w' => e = .returned (.bool (spoolOk s)) ∧ Below w.heap.size w w' := by
 obtain ⟨hw0, hlen, hx⟩ := hw
 have HX := Lib.hid hx
 have hin := fun W => within_any s.f0 0 999 W
 have HM := Lib.hid (show spoolOk s = (((List.range s.f1.length).all (goodAt s)) && ((decide (0 ≤ s.f0) && decide (s.f0 ≤ 999)) && decide ((s.f1.length : Int) ≤ 10))) from rfl)
 have HG0 := Lib.hid hG
 clear hx hG
 generalize spoolOk s = M at HM
 generalize (decide (0 ≤ s.f0) && decide (s.f0 ≤ 999)) = q2 at HM hin
 go_enter Tryd.func17, Tryd.ntmps17
 go_wp2
 obtain ⟨W0, hW0⟩ : ∃ W0, W0 = w.alloc (.cells #[.int .i64 s.f0, .slice A0 s.f1.length c0] 43) := ⟨_, rfl⟩
 rw [← hW0]
 have B0 : Below w.heap.size w W0 := by rw [hW0]; exact (Below.refl _ _).alloc (Nat.le_refl _) _
 have Z0 : w.heap.size < W0.heap.size := by rw [hW0]; simp
 have c0_ : W0.cell? ⟨w.heap.size, 0, none⟩ = some (.int .i64 s.f0) := by rw [hW0]; simp
 have c1_ : W0.cell? ⟨w.heap.size, 1, none⟩ = some (.slice A0 s.f1.length c0) := by rw [hW0]; simp
 have HC : Aside0 (∀ W, Below W0.heap.size W0 W → W.cell? ⟨w.heap.size, 0, none⟩ = some (.int .i64 s.f0) ∧ W.cell? ⟨w.heap.size, 1, none⟩ = some (.slice A0 s.f1.length c0)) := ⟨fun W h => ⟨(h.cell (p := ⟨w.heap.size, 0, none⟩) Z0).trans c0_, (h.cell (p := ⟨w.heap.size, 1, none⟩) Z0).trans c1_⟩⟩
 clear hW0 c0_ c1_
 have HB0 := Aside0.mk B0
 have hsz := B0.size
 clear B0
 go_loopg [3, 9] (s.f1.length) (fun g v3 v9 wr => ∃ (i : Nat) (la : Int), i ≤ s.f1.length ∧ s.f1.length - i ≤ g ∧ v9 = .int .i64 i ∧ v3 = .int .i64 la ∧ Aside0 (la = prevId s.f1 i) ∧ Aside0 (Below W0.heap.size W0 wr) ∧ Aside0 (∀ j, j < i → goodAt s j = true))
 case atStart => exact ⟨0, 0, Nat.zero_le _, by omega, rfl, rfl, ⟨rfl⟩, ⟨Below.refl _ _⟩, ⟨fun j hj => absurd hj (Nat.not_lt_zero _)⟩⟩
 case round =>
  obtain ⟨i, la, hi, hg, rfl, rfl, HL, BW, H⟩ := hrel
  obtain ⟨c0_, c1_⟩ := HC.out _ BW.out
  by_cases hlt : i < s.f1.length
  ·have hlt' : (i : Int) < (s.f1.length : Int) := by omega
   have hr2 := Kd.C_below hr0 (bel_then HB0.out BW.out)
   obtain ⟨ad, Q0, qc0, Q1, qc1, e1, p0, p1, p2, p3, p4, l0, k0, l1, k1⟩ := at_Item hr2 i hlt
   subst e1
   have hm := HX.out (s.f1.getD i zItem) (getD_mem _ _ hlt)
   have hgood : goodAt s i = (itemOk (s.f1.getD i zItem) && (decide (prevId s.f1 i < (s.f1.getD i zItem).f0) && decide ((s.f1.getD i zItem).f0 ≤ s.f0))) := rfl
   rw [← HL.out] at hgood
   have hnx : prevId s.f1 (i + 1) = (s.f1.getD i zItem).f0 := by unfold prevId; rw [if_neg (by omega)]; rfl
   generalize hy : s.f1.getD i zItem = y at p0 p1 p2 p3 p4 l0 k0 l1 k1 hm hgood hnx
   have HY := Lib.hid hy
   have HG := Lib.hid hgood
   have HN := Lib.hid hnx
   have hcall := fun (W : World) (hW : Below wr.heap.size wr W) => itemRight_any y Q0 qc0 Q1 qc1 W hm (Kd.C_below k0 hW) (Kd.C_below k1 hW) (HG0.out.below (bel_then HB0.out (bel_then BW.out hW)))
   clear hy hgood hnx hm k0 k1 l0 l1 hr2
   cases hq : itemOk y
   ·rw [hq] at hcall
    have HQ := Lib.hid hq
    clear hq
    go_wp2_with (go_at_call 31; refine (hcall _ (by (with_reducible repeat (first | exact (Below.refl wr.heap.size wr) | refine bel_alloc ?_ _ | refine bel_set ?_ _ ?_ | refine blw_drewN ?_ _ | refine Below.drew ?_)); all_goals (first | (simp; done) | (simp; omega) | omega))).mono ?_; rintro e w1 ⟨rfl, b1⟩; have B1 : Below W0.heap.size W0 w1 := bel_then (by (with_reducible repeat (first | exact BW.out | refine bel_alloc ?_ _ | refine bel_set ?_ _ ?_ | refine blw_drewN ?_ _ | refine Below.drew ?_)); all_goals (first | (simp; done) | (simp; omega) | omega)) b1; obtain ⟨d0_, d1_⟩ := HC.out _ B1; have u0 := (b1.cell (p := ⟨wr.heap.size, 0, none⟩) (by simp)).trans (by simp : _ = some (.int .i64 y.f0)); clear b1)
    go_ret
    refine ⟨retb ?_, bel_then HB0.out B1⟩
    rw [HM.out, range_not hlt (by rw [HG.out, HQ.out]; rfl), Bool.false_and]
   ·rw [hq] at hcall
    have HQ := Lib.hid hq
    clear hq
    by_cases hz : la < y.f0
    ·have hz1 : ¬ y.f0 ≤ la := by omega
     have hz2 : decide (y.f0 ≤ la) = false := decide_eq_false hz1
     have HZ := Lib.hid hz
     clear hz
     by_cases hl : y.f0 ≤ s.f0
     ·have hl1 : ¬ s.f0 < y.f0 := by omega
      have hl2 : decide (s.f0 < y.f0) = false := decide_eq_false hl1
      have hl3 : decide (y.f0 > s.f0) = false := hl2
      have HL2 := Lib.hid hl
      clear hl
      go_wp2_with (go_at_call 31; refine (hcall _ (by (with_reducible repeat (first | exact (Below.refl wr.heap.size wr) | refine bel_alloc ?_ _ | refine bel_set ?_ _ ?_ | refine blw_drewN ?_ _ | refine Below.drew ?_)); all_goals (first | (simp; done) | (simp; omega) | omega))).mono ?_; rintro e w1 ⟨rfl, b1⟩; have B1 : Below W0.heap.size W0 w1 := bel_then (by (with_reducible repeat (first | exact BW.out | refine bel_alloc ?_ _ | refine bel_set ?_ _ ?_ | refine blw_drewN ?_ _ | refine Below.drew ?_)); all_goals (first | (simp; done) | (simp; omega) | omega)) b1; obtain ⟨d0_, d1_⟩ := HC.out _ B1; have u0 := (b1.cell (p := ⟨wr.heap.size, 0, none⟩) (by simp)).trans (by simp : _ = some (.int .i64 y.f0)); clear b1)
      go_roundg (s.f1.length - (i + 1))
      case measure => omega
      case rel => exact ⟨i + 1, y.f0, by omega, Nat.le_refl _, by go_num, rfl, ⟨HN.out.symm⟩, ⟨B1⟩, ⟨fun j hj => by
       by_cases e : j = i
       ·subst e; rw [HG.out, HQ.out, decide_eq_true HZ.out, decide_eq_true HL2.out]; rfl
       ·exact H.out j (by omega)⟩⟩
     ·have hl1 : s.f0 < y.f0 := by omega
      have hl2 : decide (s.f0 < y.f0) = true := decide_eq_true hl1
      have hl3 : decide (y.f0 > s.f0) = true := hl2
      have HL2 := Lib.hid hl
      clear hl
      go_wp2_with (go_at_call 31; refine (hcall _ (by (with_reducible repeat (first | exact (Below.refl wr.heap.size wr) | refine bel_alloc ?_ _ | refine bel_set ?_ _ ?_ | refine blw_drewN ?_ _ | refine Below.drew ?_)); all_goals (first | (simp; done) | (simp; omega) | omega))).mono ?_; rintro e w1 ⟨rfl, b1⟩; have B1 : Below W0.heap.size W0 w1 := bel_then (by (with_reducible repeat (first | exact BW.out | refine bel_alloc ?_ _ | refine bel_set ?_ _ ?_ | refine blw_drewN ?_ _ | refine Below.drew ?_)); all_goals (first | (simp; done) | (simp; omega) | omega)) b1; obtain ⟨d0_, d1_⟩ := HC.out _ B1; have u0 := (b1.cell (p := ⟨wr.heap.size, 0, none⟩) (by simp)).trans (by simp : _ = some (.int .i64 y.f0)); clear b1)
      go_ret
      refine ⟨retb ?_, bel_then HB0.out B1⟩
      rw [HM.out, range_not hlt (by rw [HG.out, decide_eq_false (show ¬ y.f0 ≤ s.f0 by have := HL2.out; omega), Bool.and_false, Bool.and_false]), Bool.false_and]
    ·have hz1 : y.f0 ≤ la := by omega
     have hz2 : decide (y.f0 ≤ la) = true := decide_eq_true hz1
     have HZ := Lib.hid hz
     clear hz
     go_wp2_with (go_at_call 31; refine (hcall _ (by (with_reducible repeat (first | exact (Below.refl wr.heap.size wr) | refine bel_alloc ?_ _ | refine bel_set ?_ _ ?_ | refine blw_drewN ?_ _ | refine Below.drew ?_)); all_goals (first | (simp; done) | (simp; omega) | omega))).mono ?_; rintro e w1 ⟨rfl, b1⟩; have B1 : Below W0.heap.size W0 w1 := bel_then (by (with_reducible repeat (first | exact BW.out | refine bel_alloc ?_ _ | refine bel_set ?_ _ ?_ | refine blw_drewN ?_ _ | refine Below.drew ?_)); all_goals (first | (simp; done) | (simp; omega) | omega)) b1; obtain ⟨d0_, d1_⟩ := HC.out _ B1; have u0 := (b1.cell (p := ⟨wr.heap.size, 0, none⟩) (by simp)).trans (by simp : _ = some (.int .i64 y.f0)); clear b1)
     go_ret
     refine ⟨retb ?_, bel_then HB0.out B1⟩
     rw [HM.out, range_not hlt (by rw [HG.out, decide_eq_false (show ¬ la < y.f0 by have := HZ.out; omega), Bool.false_and, Bool.and_false]), Bool.false_and]
  ·have hlt' : ¬ (i : Int) < (s.f1.length : Int) := by omega
   have HMM := Lib.hid (show M = (q2 && decide ((s.f1.length : Int) ≤ 10)) by rw [HM.out, range_all (fun j hj => H.out j (by omega)), Bool.true_and])
   clear HM
   cases q2
   all_goals
    go_wp2_with (go_at_call 42; refine (hin _).mono ?_; rintro e w3 ⟨rfl, rfl⟩)
    go_ret
    exact ⟨retb (by rw [HMM.out]; first | rfl | (rw [Bool.true_and]; exact decide_eq_decide.2 (by omega))), bel_then HB0.out BW.out⟩

def isum : List Int → Int
 | [] => 0
 | x :: r => x + isum r
theorem isum_append (a b : List Int) : isum (a ++ b) = isum a + isum b := by
 induction a with
 | nil => simp [isum]
 | cons x r ih => simp [isum, ih]; omega
def spoolMany (s : SSpool) : Int := if spoolOk s then isum (s.f1.map fun x => (x.f2.length : Int)) else -1

set_option maxRecDepth 100000 in
set_option maxHeartbeats 2000000 in
theorem spoolMany_any (s : SSpool) (A0 : Option Addr) (c0 : Nat) (w : World) (hw : fitSpool s) (hr0 : Kd.C kItem w A0 s.f1.length s.f1) (hG : Glob w) :
  Calls Tryd.prog 18 #[.agg #[.int .i64 s.f0, .slice A0 s.f1.length c0]] w fun e w' => e = .returned (.int .i64 (spoolMany s)) ∧ Below w.heap.size w w' := by
 have hok := fun W (hW : Below w.heap.size w W) => spoolOk_any s A0 c0 W hw (Kd.C_below hr0 hW) (hG.below hW)
 obtain ⟨hw0, hlen, hx⟩ := hw
 have HX := Lib.hid hx
 have HM := Lib.hid (show spoolMany s = if spoolOk s then isum (s.f1.map fun x => (x.f2.length : Int)) else -1 from rfl)
 clear hx hG
 generalize spoolMany s = M at HM
 generalize spoolOk s = q at HM hok
 cases q
 ·go_enter Tryd.func18, Tryd.ntmps18
  go_wp2_with fail
  obtain ⟨W0, hW0⟩ : ∃ W0, W0 = w.alloc (.cells #[.int .i64 s.f0, .slice A0 s.f1.length c0] 43) := ⟨_, rfl⟩
  rw [← hW0]
  have B0 : Below w.heap.size w W0 := by rw [hW0]; exact (Below.refl _ _).alloc (Nat.le_refl _) _
  have Z0 : w.heap.size < W0.heap.size := by rw [hW0]; simp
  have c0_ : W0.cell? ⟨w.heap.size, 0, none⟩ = some (.int .i64 s.f0) := by rw [hW0]; simp
  have c1_ : W0.cell? ⟨w.heap.size, 1, none⟩ = some (.slice A0 s.f1.length c0) := by rw [hW0]; simp
  have HC : Aside0 (∀ W, Below W0.heap.size W0 W → W.cell? ⟨w.heap.size, 0, none⟩ = some (.int .i64 s.f0) ∧ W.cell? ⟨w.heap.size, 1, none⟩ = some (.slice A0 s.f1.length c0)) := ⟨fun W h => ⟨(h.cell (p := ⟨w.heap.size, 0, none⟩) Z0).trans c0_, (h.cell (p := ⟨w.heap.size, 1, none⟩) Z0).trans c1_⟩⟩
  clear hW0 c0_ c1_
  have HB0 := Aside0.mk B0
  have hsz := B0.size
  clear B0
  go_wp2_with (go_at_call 17; refine (hok _ HB0.out).mono ?_; rintro e w1 ⟨rfl, b1⟩; have B1 : Below W0.heap.size W0 w1 := b1; obtain ⟨c0_, c1_⟩ := HC.out _ B1)
  go_ret
  exact ⟨reti (by rw [HM.out]; rfl), bel_then HB0.out B1⟩
 ·go_enter Tryd.func18, Tryd.ntmps18
  go_wp2_with fail
  obtain ⟨W0, hW0⟩ : ∃ W0, W0 = w.alloc (.cells #[.int .i64 s.f0, .slice A0 s.f1.length c0] 43) := ⟨_, rfl⟩
  rw [← hW0]
  have B0 : Below w.heap.size w W0 := by rw [hW0]; exact (Below.refl _ _).alloc (Nat.le_refl _) _
  have Z0 : w.heap.size < W0.heap.size := by rw [hW0]; simp
  have c0_ : W0.cell? ⟨w.heap.size, 0, none⟩ = some (.int .i64 s.f0) := by rw [hW0]; simp
  have c1_ : W0.cell? ⟨w.heap.size, 1, none⟩ = some (.slice A0 s.f1.length c0) := by rw [hW0]; simp
  have HC : Aside0 (∀ W, Below W0.heap.size W0 W → W.cell? ⟨w.heap.size, 0, none⟩ = some (.int .i64 s.f0) ∧ W.cell? ⟨w.heap.size, 1, none⟩ = some (.slice A0 s.f1.length c0)) := ⟨fun W h => ⟨(h.cell (p := ⟨w.heap.size, 0, none⟩) Z0).trans c0_, (h.cell (p := ⟨w.heap.size, 1, none⟩) Z0).trans c1_⟩⟩
  clear hW0 c0_ c1_
  have HB0 := Aside0.mk B0
  have hsz := B0.size
  clear B0
  go_wp2_with (go_at_call 17; refine (hok _ HB0.out).mono ?_; rintro e w1 ⟨rfl, b1⟩; have B1 : Below W0.heap.size W0 w1 := b1; obtain ⟨c0_, c1_⟩ := HC.out _ B1)
  go_loopg [3, 12] (s.f1.length) (fun g v3 v9 wr => ∃ (i : Nat) (t : Int), i ≤ s.f1.length ∧ s.f1.length - i ≤ g ∧ v9 = .int .i64 i ∧ v3 = .int .i64 t ∧ 0 ≤ t ∧ t ≤ 1048576 * (i : Int) ∧ Aside0 (t = isum ((s.f1.take i).map fun x => (x.f2.length : Int))) ∧ Aside0 (Below W0.heap.size W0 wr))
  case atStart => exact ⟨0, 0, Nat.zero_le _, by omega, rfl, rfl, by omega, by omega, ⟨rfl⟩, ⟨B1⟩⟩
  case round =>
   clear B1 b1
   obtain ⟨i, t, hi, hg, rfl, rfl, ht0, ht1, HT, BW⟩ := hrel
   obtain ⟨c0_, c1_⟩ := HC.out _ BW.out
   by_cases hlt : i < s.f1.length
   ·have hlt' : (i : Int) < (s.f1.length : Int) := by omega
    have hr2 := Kd.C_below hr0 (bel_then HB0.out BW.out)
    obtain ⟨ad, Q0, qc0, Q1, qc1, e1, p0, p1, p2, p3, p4, l0, k0, l1, k1⟩ := at_Item hr2 i hlt
    subst e1
    have hm := (HX.out (s.f1.getD i zItem) (getD_mem _ _ hlt)).2.2.1.1
    have hnx : isum ((s.f1.take (i + 1)).map fun x => (x.f2.length : Int)) = t + ((s.f1.getD i zItem).f2.length : Int) := by
     rw [HT.out, List.take_succ_eq_append_getElem hlt, List.map_append, isum_append, List.getD, List.getElem?_eq_getElem hlt]
     simp [isum]
    generalize s.f1.getD i zItem = y at p0 p1 p2 p3 p4 l0 k0 l1 k1 hm hnx
    have HN := Lib.hid hnx
    clear hnx k0 k1 l0 l1 hr2
    go_wp2
    go_roundg (s.f1.length - (i + 1))
    case measure => omega
    case rel => exact ⟨i + 1, t + (y.f2.length : Int), by omega, Nat.le_refl _, by go_num, rfl, by omega, by omega, ⟨HN.out.symm⟩, ⟨by (with_reducible repeat (first | exact BW.out | refine bel_alloc ?_ _ | refine bel_set ?_ _ ?_ | refine blw_drewN ?_ _ | refine Below.drew ?_)); all_goals (first | (simp; done) | (simp; omega) | omega)⟩⟩
   ·have hlt' : ¬ (i : Int) < (s.f1.length : Int) := by omega
    have hT := HT.out
    rw [show s.f1.take i = s.f1 from List.take_of_length_le (by omega)] at hT
    have HT2 := Lib.hid hT
    clear hT HT
    go_wp2
    go_ret
    exact ⟨reti (by rw [HM.out, HT2.out]; rfl), bel_then HB0.out BW.out⟩

end Go.Proofs.YtiaibgkpohmihaaDoor
