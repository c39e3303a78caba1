/- The reference's word on items: a contract. -/
import Derived.Test.YtiaibgkpohmihaaDoorSpoolS
namespace Go.Proofs.YtiaibgkpohmihaaDoor
open Go.RowKit Go.Proofs.YtiaibgkpohmihaaDoorW.PrintWords
set_option linter.unusedVariables false
set_option linter.unusedSimpArgs false

attribute [local go_sem high] eqA24
set_option maxRecDepth 100000 in
set_option maxHeartbeats 4000000 in
theorem specItem_any (x : SItem) (A0 : Option Addr) (c0 : Nat) (A1 : Option Addr) (c1 : Nat) (w : World) (hw : fitItem x) (hr0 : Kd.C kRcpt w A0 x.f2.length x.f2) (hr1 : Kd.C Kd.string w A1 x.f3.length x.f3) :
  Calls Tryd.prog 34 #[.agg #[.int .i64 x.f0, .string x.f1.f0, .string x.f1.f1, .slice A0 x.f2.length c0, .slice A1 x.f3.length c1]] w fun e w' => e = .returned (.bool (itemOk x)) ∧ Below w.heap.size w w' := by
 obtain ⟨hw0, hw1, hw2, hw3⟩ := hw
 obtain ⟨hlen, hx⟩ := hw2
 have HX := Lib.hid hx
 have hbody := fun W (hW : Below w.heap.size w W) => specBody_any A1 c1 x.f3 W (Kd.C_below hr1 hW) hw3
 have hfrom := fun W (hW : Below w.heap.size w W) => specAddr_any x.f1.f0 x.f1.f1 W (by have := hw1.1; omega) (by have := hw1.2; omega)
 have hnul := fun W (hW : Below w.heap.size w W) => specNull_any x.f1.f0 x.f1.f1 W
 have hin := fun W => specIn_any (x.f2.length : Int) 1 4 W
 have HM := Lib.hid (show itemOk x = (x.f2.all rcptOk && (decide ((x.f2.map (·.f0)).Nodup) && (decide (0 < x.f0) && ((nul x.f1.f0.data.toList x.f1.f1.data.toList || addr x.f1.f0.data.toList x.f1.f1.data.toList) && ((decide (1 ≤ (x.f2.length : Int)) && decide ((x.f2.length : Int) ≤ 4)) && bodyOk x.f3))))) from rfl)
 clear hx hr1 hw3
 generalize itemOk x = M at HM
 generalize nul x.f1.f0.data.toList x.f1.f1.data.toList = q0 at HM hnul
 generalize addr x.f1.f0.data.toList x.f1.f1.data.toList = q1 at HM hfrom
 generalize (decide (1 ≤ (x.f2.length : Int)) && decide ((x.f2.length : Int) ≤ 4)) = q2 at HM hin
 generalize bodyOk x.f3 = q3 at HM hbody
 go_enter Tryd.func34, Tryd.ntmps34
 go_wp2
 obtain ⟨W0, hW0⟩ : ∃ W0, W0 = w.alloc (.cells #[.int .i64 x.f0, .string x.f1.f0, .string x.f1.f1, .slice A0 x.f2.length c0, .slice A1 x.f3.length c1] 28) := ⟨_, rfl⟩
 rw [← hW0]
 have B0 : Below w.heap.size w W0 := by rw [hW0]; exact (Below.refl _ _).alloc (Nat.le_refl _) _
 have Z0 : w.heap.size < W0.heap.size := by rw [hW0]; simp
 have c0_ : W0.cell? ⟨w.heap.size, 0, none⟩ = some (.int .i64 x.f0) := by rw [hW0]; simp
 have c1_ : W0.cell? ⟨w.heap.size, 1, none⟩ = some (.string x.f1.f0) := by rw [hW0]; simp
 have c2_ : W0.cell? ⟨w.heap.size, 2, none⟩ = some (.string x.f1.f1) := by rw [hW0]; simp
 have c3_ : W0.cell? ⟨w.heap.size, 3, none⟩ = some (.slice A0 x.f2.length c0) := by rw [hW0]; simp
 have c4_ : W0.cell? ⟨w.heap.size, 4, none⟩ = some (.slice A1 x.f3.length c1) := by rw [hW0]; simp
 have HC : Aside0 (∀ W, Below W0.heap.size W0 W → W.cell? ⟨w.heap.size, 0, none⟩ = some (.int .i64 x.f0) ∧ W.cell? ⟨w.heap.size, 1, none⟩ = some (.string x.f1.f0) ∧ W.cell? ⟨w.heap.size, 2, none⟩ = some (.string x.f1.f1) ∧ W.cell? ⟨w.heap.size, 3, none⟩ = some (.slice A0 x.f2.length c0) ∧ W.cell? ⟨w.heap.size, 4, none⟩ = some (.slice A1 x.f3.length c1)) := ⟨fun W h => ⟨(h.cell (p := ⟨w.heap.size, 0, none⟩) Z0).trans c0_, (h.cell (p := ⟨w.heap.size, 1, none⟩) Z0).trans c1_, (h.cell (p := ⟨w.heap.size, 2, none⟩) Z0).trans c2_, (h.cell (p := ⟨w.heap.size, 3, none⟩) Z0).trans c3_, (h.cell (p := ⟨w.heap.size, 4, none⟩) Z0).trans c4_⟩⟩
 clear hW0 c0_ c1_ c2_ c3_ c4_
 have HB0 := Aside0.mk B0
 have hsz := B0.size
 clear B0
 go_loopg [3, 4] (x.f2.length) (fun g v3 _ wr => ∃ i : Nat, i ≤ x.f2.length ∧ x.f2.length - i ≤ g ∧ v3 = .int .i64 i ∧ Aside0 (Below W0.heap.size W0 wr) ∧ Aside0 (∀ j, j < i → rcptOk (x.f2.getD j zRcpt) = true) ∧ Aside0 (∀ a b, a < b → b < i → (x.f2.getD a zRcpt).f0 ≠ (x.f2.getD b zRcpt).f0))
 case atStart => exact ⟨0, Nat.zero_le _, by omega, rfl, ⟨Below.refl _ _⟩, ⟨fun j hj => absurd hj (Nat.not_lt_zero _)⟩, ⟨fun a b _ hj => absurd hj (Nat.not_lt_zero _)⟩⟩
 case round =>
  obtain ⟨i, hi, hg, rfl, BW, H, HD⟩ := hrel
  obtain ⟨c0_, c1_, c2_, c3_, c4_⟩ := HC.out _ BW.out
  by_cases hlt : i < x.f2.length
  ·have hlt' : (i : Int) < (x.f2.length : Int) := by omega
   obtain ⟨ad, e1, p0, p1, p2, p3⟩ := at_Rcpt (Kd.C_below hr0 (bel_then HB0.out BW.out)) i hlt
   subst e1
   have hm := HX.out (x.f2.getD i zRcpt) (getD_mem _ _ hlt)
   generalize hy : x.f2.getD i zRcpt = y at p0 p1 p2 p3 hm
   have hcall := fun W => specRcpt_any y W hm
   have HY := Lib.hid hy
   have HR := Lib.hid hr0
   clear hy hm hr0
   cases hq : rcptOk y
   ·rw [hq] at hcall
    have HQ := Lib.hid hq
    clear hq
    go_wp2_with (go_at_call 68; refine (hcall _).mono ?_; rintro e w1 ⟨rfl, b1⟩; have B1 : Below W0.heap.size W0 w1 := bel_then (by (with_reducible repeat (first | exact BW.out | refine bel_alloc ?_ _ | refine bel_set ?_ _ ?_ | refine blw_drewN ?_ _ | refine Below.drew ?_)); all_goals (first | (simp; done) | (simp; omega) | omega)) b1; clear b1)
    go_ret
    refine ⟨retb ?_, bel_then HB0.out B1⟩
    rw [HM.out, all_getD_false rcptOk x.f2 zRcpt i hlt (by rw [HY.out]; exact HQ.out)]
    rfl
   ·rw [hq] at hcall
    have HQ := Lib.hid hq
    clear hq
    go_wp2_with (go_at_call 68; refine (hcall _).mono ?_; rintro e w1 ⟨rfl, b1⟩; have B1 : Below W0.heap.size W0 w1 := bel_then (by (with_reducible repeat (first | exact BW.out | refine bel_alloc ?_ _ | refine bel_set ?_ _ ?_ | refine blw_drewN ?_ _ | refine Below.drew ?_)); all_goals (first | (simp; done) | (simp; omega) | omega)) b1; clear b1)
    have B1 := Aside0.mk B1
    clear c0_ c1_ c2_ c3_ c4_ p0 p1 p2 p3
    go_loopg [4] i (fun g v4 wr => ∃ k : Nat, k ≤ i ∧ i - k ≤ g ∧ v4 = .int .i64 k ∧ Aside0 (Below W0.heap.size W0 wr) ∧ Aside0 (∀ j, j < k → (x.f2.getD j zRcpt).f0 ≠ y.f0))
    case atStart => exact ⟨0, Nat.zero_le _, by omega, rfl, B1, ⟨fun j hj => absurd hj (Nat.not_lt_zero _)⟩⟩
    case round =>
     clear BW B1
     obtain ⟨k, hk, hgk, rfl, BW, HK⟩ := hrel
     obtain ⟨c0_, c1_, c2_, c3_, c4_⟩ := HC.out _ BW.out
     by_cases hlk : k < i
     ·have hlk' : (k : Int) < (i : Int) := by omega
      have hlk2 : (k : Int) < (x.f2.length : Int) := by omega
      have hr2 := Kd.C_below HR.out (bel_then HB0.out BW.out)
      obtain ⟨ad1, e1, p0, p1, p2, p3⟩ := at_Rcpt hr2 i hlt
      obtain rfl : ad = ad1 := by injection e1
      obtain ⟨ad2, e2, g0, g1, g2, g3⟩ := at_Rcpt hr2 k (by omega)
      obtain rfl : ad = ad2 := by injection e2
      have hy1 := HY.out
      rw [hy1] at p0 p1 p2 p3
      generalize hz : x.f2.getD k zRcpt = z at g0 g1 g2 g3
      have heq := addr_eq z.f0 y.f0
      have HZ := Lib.hid hz
      clear hz hy1 hr2 e1 e2 p2 p3 g2 g3
      by_cases hzy : z.f0 = y.f0
      ·rw [decide_eq_true hzy] at heq
       have HZY := Lib.hid hzy
       clear hzy
       go_wp2
       repeat (go_quiet (fail); try go_wp2)
       go_ret
       refine ⟨retb ?_, bel_then HB0.out (blw_drewN BW.out _)⟩
       rw [HM.out, decide_eq_false (not_nodup (·.f0) x.f2 zRcpt k i hlk hlt (by rw [HZ.out, HY.out]; exact HZY.out))]
       simp
      ·rw [decide_eq_false hzy] at heq
       have HZY := Lib.hid hzy
       clear hzy
       go_wp2
       repeat (go_quiet (fail); try go_wp2)
       go_roundg (i - (k + 1))
       case measure => omega
       case rel => exact ⟨k + 1, by omega, Nat.le_refl _, by go_num, ⟨blw_drewN BW.out _⟩, ⟨fun j hj => by
        by_cases e : j = k
        ·subst e; rw [HZ.out]; exact HZY.out
        ·exact HK.out j (by omega)⟩⟩
     ·have hlk' : ¬ (k : Int) < (i : Int) := by omega
      go_wp2
      go_roundg (x.f2.length - (i + 1))
      case measure => omega
      case rel => exact ⟨i + 1, by omega, Nat.le_refl _, by go_num, BW, ⟨fun j hj => by
       by_cases e : j = i
       ·subst e; rw [HY.out]; exact HQ.out
       ·exact H.out j (by omega)⟩, ⟨fun a b hab hb => by
       by_cases e : b = i
       ·subst e; rw [HY.out]; exact HK.out a (by omega)
       ·exact HD.out a b hab (by omega)⟩⟩
  ·have hlt' : ¬ (i : Int) < (x.f2.length : Int) := by omega
   have hall : x.f2.all rcptOk = true := all_upto _ x.f2 zRcpt (fun j hj => H.out j (by omega))
   have hnd : (x.f2.map (·.f0)).Nodup := nodup_at (·.f0) x.f2 zRcpt (fun a b hab hb => HD.out a b hab (by omega))
   have HMM := Lib.hid (show M = (decide (0 < x.f0) && ((q0 || q1) && (q2 && q3))) by rw [HM.out, hall, decide_eq_true hnd]; rfl)
   clear hall hnd HM
   by_cases hid : 0 < x.f0
   ·have hid1 : decide (0 < x.f0) = true := decide_eq_true hid
    rw [decide_eq_true hid] at HMM
    cases q1
    ·cases q0
     ·go_wp2_with (first | (go_at_call 35; refine (hfrom _ (bel_then HB0.out (by (with_reducible repeat (first | exact BW.out | refine bel_alloc ?_ _ | refine bel_set ?_ _ ?_ | refine blw_drewN ?_ _ | refine Below.drew ?_)); all_goals (first | (simp; done) | (simp; omega) | omega)))).mono ?_; rintro e w1 ⟨rfl, b1⟩; have B1 : Below W0.heap.size W0 w1 := bel_then (by (with_reducible repeat (first | exact BW.out | refine bel_alloc ?_ _ | refine bel_set ?_ _ ?_ | refine blw_drewN ?_ _ | refine Below.drew ?_)); all_goals (first | (simp; done) | (simp; omega) | omega)) b1; obtain ⟨c0_, c1_, c2_, c3_, c4_⟩ := HC.out _ B1; clear b1) | (go_at_call 36; refine (hnul _ (bel_then HB0.out (by (with_reducible repeat (first | exact B1 | refine bel_alloc ?_ _ | refine bel_set ?_ _ ?_ | refine blw_drewN ?_ _ | refine Below.drew ?_)); all_goals (first | (simp; done) | (simp; omega) | omega)))).mono ?_; rintro e w2 ⟨rfl, b2⟩; have B2 : Below W0.heap.size W0 w2 := bel_then (by (with_reducible repeat (first | exact B1 | refine bel_alloc ?_ _ | refine bel_set ?_ _ ?_ | refine blw_drewN ?_ _ | refine Below.drew ?_)); all_goals (first | (simp; done) | (simp; omega) | omega)) b2; obtain ⟨c0_, c1_, c2_, c3_, c4_⟩ := HC.out _ B2; clear b2))
      go_ret
      exact ⟨retb (by rw [HMM.out]; rfl), bel_then HB0.out B2⟩
     ·cases q2
      ·go_wp2_with (first | (go_at_call 35; refine (hfrom _ (bel_then HB0.out (by (with_reducible repeat (first | exact BW.out | refine bel_alloc ?_ _ | refine bel_set ?_ _ ?_ | refine blw_drewN ?_ _ | refine Below.drew ?_)); all_goals (first | (simp; done) | (simp; omega) | omega)))).mono ?_; rintro e w1 ⟨rfl, b1⟩; have B1 : Below W0.heap.size W0 w1 := bel_then (by (with_reducible repeat (first | exact BW.out | refine bel_alloc ?_ _ | refine bel_set ?_ _ ?_ | refine blw_drewN ?_ _ | refine Below.drew ?_)); all_goals (first | (simp; done) | (simp; omega) | omega)) b1; obtain ⟨c0_, c1_, c2_, c3_, c4_⟩ := HC.out _ B1; clear b1) | (go_at_call 36; refine (hnul _ (bel_then HB0.out (by (with_reducible repeat (first | exact B1 | refine bel_alloc ?_ _ | refine bel_set ?_ _ ?_ | refine blw_drewN ?_ _ | refine Below.drew ?_)); all_goals (first | (simp; done) | (simp; omega) | omega)))).mono ?_; rintro e w2 ⟨rfl, b2⟩; have B2 : Below W0.heap.size W0 w2 := bel_then (by (with_reducible repeat (first | exact B1 | refine bel_alloc ?_ _ | refine bel_set ?_ _ ?_ | refine blw_drewN ?_ _ | refine Below.drew ?_)); all_goals (first | (simp; done) | (simp; omega) | omega)) b2; obtain ⟨c0_, c1_, c2_, c3_, c4_⟩ := HC.out _ B2; clear b2) | (go_at_call 59; refine (hin _).mono ?_; rintro e w3 ⟨rfl, rfl⟩; have B3 := B2))
       go_ret
       exact ⟨retb (by rw [HMM.out]; rfl), bel_then HB0.out B3⟩
      ·go_wp2_with (first | (go_at_call 35; refine (hfrom _ (bel_then HB0.out (by (with_reducible repeat (first | exact BW.out | refine bel_alloc ?_ _ | refine bel_set ?_ _ ?_ | refine blw_drewN ?_ _ | refine Below.drew ?_)); all_goals (first | (simp; done) | (simp; omega) | omega)))).mono ?_; rintro e w1 ⟨rfl, b1⟩; have B1 : Below W0.heap.size W0 w1 := bel_then (by (with_reducible repeat (first | exact BW.out | refine bel_alloc ?_ _ | refine bel_set ?_ _ ?_ | refine blw_drewN ?_ _ | refine Below.drew ?_)); all_goals (first | (simp; done) | (simp; omega) | omega)) b1; obtain ⟨c0_, c1_, c2_, c3_, c4_⟩ := HC.out _ B1; clear b1) | (go_at_call 36; refine (hnul _ (bel_then HB0.out (by (with_reducible repeat (first | exact B1 | refine bel_alloc ?_ _ | refine bel_set ?_ _ ?_ | refine blw_drewN ?_ _ | refine Below.drew ?_)); all_goals (first | (simp; done) | (simp; omega) | omega)))).mono ?_; rintro e w2 ⟨rfl, b2⟩; have B2 : Below W0.heap.size W0 w2 := bel_then (by (with_reducible repeat (first | exact B1 | refine bel_alloc ?_ _ | refine bel_set ?_ _ ?_ | refine blw_drewN ?_ _ | refine Below.drew ?_)); all_goals (first | (simp; done) | (simp; omega) | omega)) b2; obtain ⟨c0_, c1_, c2_, c3_, c4_⟩ := HC.out _ B2; clear b2) | (go_at_call 59; refine (hin _).mono ?_; rintro e w3 ⟨rfl, rfl⟩; have B3 := B2) | (go_at_call 69; refine (hbody _ (bel_then HB0.out (by (with_reducible repeat (first | exact B3 | refine bel_alloc ?_ _ | refine bel_set ?_ _ ?_ | refine blw_drewN ?_ _ | refine Below.drew ?_)); all_goals (first | (simp; done) | (simp; omega) | omega)))).mono ?_; rintro e w4 ⟨rfl, b4⟩; have B4 : Below W0.heap.size W0 w4 := bel_then (by (with_reducible repeat (first | exact B3 | refine bel_alloc ?_ _ | refine bel_set ?_ _ ?_ | refine blw_drewN ?_ _ | refine Below.drew ?_)); all_goals (first | (simp; done) | (simp; omega) | omega)) b4; clear b4))
       go_ret
       exact ⟨retb (by rw [HMM.out]; rfl), bel_then HB0.out B4⟩
    ·have HM2 := Lib.hid (show M = (q2 && q3) by rw [HMM.out]; cases q0 <;> rfl)
     clear HMM
     cases q2
     ·go_wp2_with (first | (go_at_call 35; refine (hfrom _ (bel_then HB0.out (by (with_reducible repeat (first | exact BW.out | refine bel_alloc ?_ _ | refine bel_set ?_ _ ?_ | refine blw_drewN ?_ _ | refine Below.drew ?_)); all_goals (first | (simp; done) | (simp; omega) | omega)))).mono ?_; rintro e w1 ⟨rfl, b1⟩; have B1 : Below W0.heap.size W0 w1 := bel_then (by (with_reducible repeat (first | exact BW.out | refine bel_alloc ?_ _ | refine bel_set ?_ _ ?_ | refine blw_drewN ?_ _ | refine Below.drew ?_)); all_goals (first | (simp; done) | (simp; omega) | omega)) b1; obtain ⟨c0_, c1_, c2_, c3_, c4_⟩ := HC.out _ B1; clear b1) | (go_at_call 59; refine (hin _).mono ?_; rintro e w3 ⟨rfl, rfl⟩; have B3 := B1))
      go_ret
      exact ⟨retb (by rw [HM2.out]; rfl), bel_then HB0.out B3⟩
     ·go_wp2_with (first | (go_at_call 35; refine (hfrom _ (bel_then HB0.out (by (with_reducible repeat (first | exact BW.out | refine bel_alloc ?_ _ | refine bel_set ?_ _ ?_ | refine blw_drewN ?_ _ | refine Below.drew ?_)); all_goals (first | (simp; done) | (simp; omega) | omega)))).mono ?_; rintro e w1 ⟨rfl, b1⟩; have B1 : Below W0.heap.size W0 w1 := bel_then (by (with_reducible repeat (first | exact BW.out | refine bel_alloc ?_ _ | refine bel_set ?_ _ ?_ | refine blw_drewN ?_ _ | refine Below.drew ?_)); all_goals (first | (simp; done) | (simp; omega) | omega)) b1; obtain ⟨c0_, c1_, c2_, c3_, c4_⟩ := HC.out _ B1; clear b1) | (go_at_call 59; refine (hin _).mono ?_; rintro e w3 ⟨rfl, rfl⟩; have B3 := B1) | (go_at_call 69; refine (hbody _ (bel_then HB0.out (by (with_reducible repeat (first | exact B3 | refine bel_alloc ?_ _ | refine bel_set ?_ _ ?_ | refine blw_drewN ?_ _ | refine Below.drew ?_)); all_goals (first | (simp; done) | (simp; omega) | omega)))).mono ?_; rintro e w4 ⟨rfl, b4⟩; have B4 : Below W0.heap.size W0 w4 := bel_then (by (with_reducible repeat (first | exact B3 | refine bel_alloc ?_ _ | refine bel_set ?_ _ ?_ | refine blw_drewN ?_ _ | refine Below.drew ?_)); all_goals (first | (simp; done) | (simp; omega) | omega)) b4; clear b4))
      go_ret
      exact ⟨retb (by rw [HM2.out]; rfl), bel_then HB0.out B4⟩
   ·have hid1 : decide (0 < x.f0) = false := decide_eq_false hid
    rw [decide_eq_false hid] at HMM
    go_wp2
    go_ret
    exact ⟨retb (by rw [HMM.out]; rfl), bel_then HB0.out BW.out⟩

end Go.Proofs.YtiaibgkpohmihaaDoor
