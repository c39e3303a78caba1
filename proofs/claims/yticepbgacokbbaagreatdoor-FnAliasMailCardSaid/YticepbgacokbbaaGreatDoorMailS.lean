/- The reference's word on mails: a contract. -/
import Derived.Test.YticepbgacokbbaaGreatDoorSpoolS
namespace Go.Proofs.YticepbgacokbbaaGreatDoor
open Go.RowKit Go.Proofs.YticepbgacokbbaaGreatDoorW.PrintWords
set_option linter.unusedVariables false
set_option linter.unusedSimpArgs false

def mailOkS (x : SMail) : Bool := mailOk x.f0.f0.data.toList x.f0.f1.data.toList x.f1 x.f2
attribute [local go_sem high] eqA25
set_option maxRecDepth 100000 in
set_option maxHeartbeats 4000000 in
theorem specMail_any (x : SMail) (A0 : Option Addr) (c0 : Nat) (A1 : Option Addr) (c1 : Nat) (w : World) (hw : fitMail x) (hr0 : Kd.C kAddr w A0 x.f1.length x.f1) (hr1 : Kd.C Kd.string w A1 x.f2.length x.f2) :
  Calls Tryz.prog 31 #[.agg #[.string x.f0.f0, .string x.f0.f1, .slice A0 x.f1.length c0, .slice A1 x.f2.length c1]] w fun e w' => e = .returned (.bool (mailOkS x)) ∧ Below w.heap.size w w' := by
 obtain ⟨hw1, hw2, hw3⟩ := hw
 obtain ⟨hlen, hx⟩ := hw2
 have HX := Lib.hid hx
 have hbody := fun W (hW : Below w.heap.size w W) => specBody_any A1 c1 x.f2 W (Kd.C_below hr1 hW) hw3
 have hfrom := fun W => specAddr_any x.f0.f0 x.f0.f1 W (by have := hw1.1; omega) (by have := hw1.2; omega)
 have hnul := fun W => specNull_any x.f0.f0 x.f0.f1 W
 have hin := fun W => specIn_any (x.f1.length : Int) 1 4 W
 have HM := Lib.hid (show mailOkS x = ((nul x.f0.f0.data.toList x.f0.f1.data.toList || addr x.f0.f0.data.toList x.f0.f1.data.toList) && ((decide (1 ≤ (x.f1.length : Int)) && decide ((x.f1.length : Int) ≤ 4)) && (x.f1.all addrS && (decide x.f1.Nodup && bodyOk x.f2)))) from rfl)
 clear hx hr1 hw3
 generalize mailOkS x = M at HM
 generalize nul x.f0.f0.data.toList x.f0.f1.data.toList = q0 at HM hnul
 generalize addr x.f0.f0.data.toList x.f0.f1.data.toList = q1 at HM hfrom
 generalize (decide (1 ≤ (x.f1.length : Int)) && decide ((x.f1.length : Int) ≤ 4)) = q2 at HM hin
 generalize bodyOk x.f2 = q3 at HM hbody
 go_enter Tryz.func31, Tryz.ntmps31
 go_wp2
 obtain ⟨W0, hW0⟩ : ∃ W0, W0 = w.alloc (.cells #[.string x.f0.f0, .string x.f0.f1, .slice A0 x.f1.length c0, .slice A1 x.f2.length c1] 29) := ⟨_, rfl⟩
 rw [← hW0]
 have B0 : Below w.heap.size w W0 := by rw [hW0]; exact (Below.refl _ _).alloc (Nat.le_refl _) _
 have Z0 : w.heap.size < W0.heap.size := by rw [hW0]; simp
 have c0_ : W0.cell? ⟨w.heap.size, 0, none⟩ = some (.string x.f0.f0) := by rw [hW0]; simp
 have c1_ : W0.cell? ⟨w.heap.size, 1, none⟩ = some (.string x.f0.f1) := by rw [hW0]; simp
 have c2_ : W0.cell? ⟨w.heap.size, 2, none⟩ = some (.slice A0 x.f1.length c0) := by rw [hW0]; simp
 have c3_ : W0.cell? ⟨w.heap.size, 3, none⟩ = some (.slice A1 x.f2.length c1) := by rw [hW0]; simp
 have HC : Aside0 (∀ W, Below W0.heap.size W0 W → W.cell? ⟨w.heap.size, 0, none⟩ = some (.string x.f0.f0) ∧ W.cell? ⟨w.heap.size, 1, none⟩ = some (.string x.f0.f1) ∧ W.cell? ⟨w.heap.size, 2, none⟩ = some (.slice A0 x.f1.length c0) ∧ W.cell? ⟨w.heap.size, 3, none⟩ = some (.slice A1 x.f2.length c1)) := ⟨fun W h => ⟨(h.cell (p := ⟨w.heap.size, 0, none⟩) Z0).trans c0_, (h.cell (p := ⟨w.heap.size, 1, none⟩) Z0).trans c1_, (h.cell (p := ⟨w.heap.size, 2, none⟩) Z0).trans c2_, (h.cell (p := ⟨w.heap.size, 3, none⟩) Z0).trans c3_⟩⟩
 clear hW0 c0_ c1_ c2_ c3_
 have HB0 := Aside0.mk B0
 have hsz := B0.size
 clear B0
 go_loopg [3, 4] (x.f1.length) (fun g v3 _ wr => ∃ i : Nat, i ≤ x.f1.length ∧ x.f1.length - i ≤ g ∧ v3 = .int .i64 i ∧ Aside0 (Below W0.heap.size W0 wr) ∧ Aside0 (∀ j, j < i → addrS (x.f1.getD j zAddr) = true) ∧ Aside0 (∀ a b, a < b → b < i → x.f1.getD a zAddr ≠ x.f1.getD b zAddr))
 case atStart => exact ⟨0, Nat.zero_le _, by omega, rfl, ⟨Below.refl _ _⟩, ⟨fun j hj => absurd hj (Nat.not_lt_zero _)⟩, ⟨fun a b _ hj => absurd hj (Nat.not_lt_zero _)⟩⟩
 case round =>
  obtain ⟨i, hi, hg, rfl, BW, H, HD⟩ := hrel
  obtain ⟨c0_, c1_, c2_, c3_⟩ := HC.out _ BW.out
  by_cases hlt : i < x.f1.length
  ·have hlt' : (i : Int) < (x.f1.length : Int) := by omega
   obtain ⟨ad, e1, p0, p1⟩ := at_Addr (Kd.C_below hr0 (bel_then HB0.out BW.out)) i hlt
   subst e1
   have hm := HX.out (x.f1.getD i zAddr) (getD_mem _ _ hlt)
   generalize hy : x.f1.getD i zAddr = y at p0 p1 hm
   have hcall : ∀ W, Calls Tryz.prog 68 #[.agg #[.string y.f0, .string y.f1]] W fun e w' => e = .returned (.bool (addrS y)) ∧ Below W.heap.size W w' := fun W => specAddr_any y.f0 y.f1 W (by have := hm.1; omega) (by have := hm.2; omega)
   have HY := Lib.hid hy
   have HR := Lib.hid hr0
   clear hy hm hr0
   cases hq : addrS y
   ·rw [hq] at hcall
    have HQ := Lib.hid hq
    clear hq
    go_wp2_with (go_at_call 68; refine (hcall _).mono ?_; rintro e w1 ⟨rfl, b1⟩; have B1 : Below W0.heap.size W0 w1 := bel_then (by (with_reducible repeat (first | exact BW.out | refine bel_alloc ?_ _ | refine bel_set ?_ _ ?_ | refine blw_drewN ?_ _ | refine Below.drew ?_)); all_goals (first | (simp; done) | (simp; omega) | omega)) b1; clear b1)
    go_ret
    refine ⟨retb ?_, bel_then HB0.out B1⟩
    rw [HM.out, all_getD_false addrS x.f1 zAddr i hlt (by rw [HY.out]; exact HQ.out)]
    simp
   ·rw [hq] at hcall
    have HQ := Lib.hid hq
    clear hq
    go_wp2_with (go_at_call 68; refine (hcall _).mono ?_; rintro e w1 ⟨rfl, b1⟩; have B1 : Below W0.heap.size W0 w1 := bel_then (by (with_reducible repeat (first | exact BW.out | refine bel_alloc ?_ _ | refine bel_set ?_ _ ?_ | refine blw_drewN ?_ _ | refine Below.drew ?_)); all_goals (first | (simp; done) | (simp; omega) | omega)) b1; clear b1)
    have B1 := Aside0.mk B1
    clear c0_ c1_ c2_ c3_ p0 p1
    go_loopg [4] i (fun g v4 wr => ∃ k : Nat, k ≤ i ∧ i - k ≤ g ∧ v4 = .int .i64 k ∧ Aside0 (Below W0.heap.size W0 wr) ∧ Aside0 (∀ j, j < k → x.f1.getD j zAddr ≠ y))
    case atStart => exact ⟨0, Nat.zero_le _, by omega, rfl, B1, ⟨fun j hj => absurd hj (Nat.not_lt_zero _)⟩⟩
    case round =>
     clear BW B1
     obtain ⟨k, hk, hgk, rfl, BW, HK⟩ := hrel
     obtain ⟨c0_, c1_, c2_, c3_⟩ := HC.out _ BW.out
     by_cases hlk : k < i
     ·have hlk' : (k : Int) < (i : Int) := by omega
      have hlk2 : (k : Int) < (x.f1.length : Int) := by omega
      have hr2 := Kd.C_below HR.out (bel_then HB0.out BW.out)
      obtain ⟨ad1, e1, p0, p1⟩ := at_Addr hr2 i hlt
      obtain rfl : ad = ad1 := by injection e1
      obtain ⟨ad2, e2, g0, g1⟩ := at_Addr hr2 k (by omega)
      obtain rfl : ad = ad2 := by injection e2
      have hy1 := HY.out
      rw [hy1] at p0 p1
      generalize hz : x.f1.getD k zAddr = z at g0 g1
      have heq := addr_eq z y
      have HZ := Lib.hid hz
      clear hz hy1 hr2 e1 e2
      by_cases hzy : z = y
      ·rw [decide_eq_true hzy] at heq
       have HZY := Lib.hid hzy
       clear hzy
       go_wp2
       repeat (go_quiet (fail); try go_wp2)
       go_ret
       refine ⟨retb ?_, bel_then HB0.out (blw_drewN BW.out _)⟩
       have hnn : ¬ x.f1.Nodup := by
        have h := not_nodup (fun a => a) x.f1 zAddr k i hlk hlt (by rw [HZ.out, HY.out]; exact HZY.out)
        rwa [List.map_id'] at h
       rw [HM.out, decide_eq_false hnn]
       simp
      ·rw [decide_eq_false hzy] at heq
       have HZY := Lib.hid hzy
       clear hzy
       go_wp2
       repeat (go_quiet (fail); try go_wp2)
       go_roundg (i - (k + 1))
       case measure => omega
       case rel => exact ⟨k + 1, by omega, Nat.le_refl _, by go_num, ⟨blw_drewN BW.out _⟩, ⟨fun j hj => by
        by_cases e : j = k
        ·subst e; rw [HZ.out]; exact HZY.out
        ·exact HK.out j (by omega)⟩⟩
     ·have hlk' : ¬ (k : Int) < (i : Int) := by omega
      go_wp2
      go_roundg (x.f1.length - (i + 1))
      case measure => omega
      case rel => exact ⟨i + 1, by omega, Nat.le_refl _, by go_num, BW, ⟨fun j hj => by
       by_cases e : j = i
       ·subst e; rw [HY.out]; exact HQ.out
       ·exact H.out j (by omega)⟩, ⟨fun a b hab hb => by
       by_cases e : b = i
       ·subst e; rw [HY.out]; exact HK.out a (by omega)
       ·exact HD.out a b hab (by omega)⟩⟩
  ·have hlt' : ¬ (i : Int) < (x.f1.length : Int) := by omega
   have hall : x.f1.all addrS = true := all_upto _ x.f1 zAddr (fun j hj => H.out j (by omega))
   have hnd : x.f1.Nodup := by
    have h := nodup_at (fun a => a) x.f1 zAddr (fun a b hab hb => HD.out a b hab (by omega))
    rwa [List.map_id'] at h
   have HMM := Lib.hid (show M = ((q0 || q1) && (q2 && q3)) by rw [HM.out, hall, decide_eq_true hnd]; simp)
   clear hall hnd HM
   cases q1
   ·cases q0
    ·go_wp2_with (first | (go_at_call 68; refine (hfrom _).mono ?_; rintro e w1 ⟨rfl, b1⟩; have B1 : Below W0.heap.size W0 w1 := bel_then (by (with_reducible repeat (first | exact BW.out | refine bel_alloc ?_ _ | refine bel_set ?_ _ ?_ | refine blw_drewN ?_ _ | refine Below.drew ?_)); all_goals (first | (simp; done) | (simp; omega) | omega)) b1; obtain ⟨c0_, c1_, c2_, c3_⟩ := HC.out _ B1; clear b1) | (go_at_call 69; refine (hnul _).mono ?_; rintro e w2 ⟨rfl, b2⟩; have B2 : Below W0.heap.size W0 w2 := bel_then (by (with_reducible repeat (first | exact B1 | refine bel_alloc ?_ _ | refine bel_set ?_ _ ?_ | refine blw_drewN ?_ _ | refine Below.drew ?_)); all_goals (first | (simp; done) | (simp; omega) | omega)) b2; obtain ⟨c0_, c1_, c2_, c3_⟩ := HC.out _ B2; clear b2))
     go_ret
     exact ⟨retb (by rw [HMM.out]; rfl), bel_then HB0.out B2⟩
    ·cases q2
     ·go_wp2_with (first | (go_at_call 68; refine (hfrom _).mono ?_; rintro e w1 ⟨rfl, b1⟩; have B1 : Below W0.heap.size W0 w1 := bel_then (by (with_reducible repeat (first | exact BW.out | refine bel_alloc ?_ _ | refine bel_set ?_ _ ?_ | refine blw_drewN ?_ _ | refine Below.drew ?_)); all_goals (first | (simp; done) | (simp; omega) | omega)) b1; obtain ⟨c0_, c1_, c2_, c3_⟩ := HC.out _ B1; clear b1) | (go_at_call 69; refine (hnul _).mono ?_; rintro e w2 ⟨rfl, b2⟩; have B2 : Below W0.heap.size W0 w2 := bel_then (by (with_reducible repeat (first | exact B1 | refine bel_alloc ?_ _ | refine bel_set ?_ _ ?_ | refine blw_drewN ?_ _ | refine Below.drew ?_)); all_goals (first | (simp; done) | (simp; omega) | omega)) b2; obtain ⟨c0_, c1_, c2_, c3_⟩ := HC.out _ B2; clear b2) | (go_at_call 34; refine (hin _).mono ?_; rintro e w3 ⟨rfl, rfl⟩; have B3 := B2))
      go_ret
      exact ⟨retb (by rw [HMM.out]; rfl), bel_then HB0.out B3⟩
     ·go_wp2_with (first | (go_at_call 68; refine (hfrom _).mono ?_; rintro e w1 ⟨rfl, b1⟩; have B1 : Below W0.heap.size W0 w1 := bel_then (by (with_reducible repeat (first | exact BW.out | refine bel_alloc ?_ _ | refine bel_set ?_ _ ?_ | refine blw_drewN ?_ _ | refine Below.drew ?_)); all_goals (first | (simp; done) | (simp; omega) | omega)) b1; obtain ⟨c0_, c1_, c2_, c3_⟩ := HC.out _ B1; clear b1) | (go_at_call 69; refine (hnul _).mono ?_; rintro e w2 ⟨rfl, b2⟩; have B2 : Below W0.heap.size W0 w2 := bel_then (by (with_reducible repeat (first | exact B1 | refine bel_alloc ?_ _ | refine bel_set ?_ _ ?_ | refine blw_drewN ?_ _ | refine Below.drew ?_)); all_goals (first | (simp; done) | (simp; omega) | omega)) b2; obtain ⟨c0_, c1_, c2_, c3_⟩ := HC.out _ B2; clear b2) | (go_at_call 34; refine (hin _).mono ?_; rintro e w3 ⟨rfl, rfl⟩; have B3 := B2) | (go_at_call 70; refine (hbody _ (bel_then HB0.out (by (with_reducible repeat (first | exact B3 | refine bel_alloc ?_ _ | refine bel_set ?_ _ ?_ | refine blw_drewN ?_ _ | refine Below.drew ?_)); all_goals (first | (simp; done) | (simp; omega) | omega)))).mono ?_; rintro e w4 ⟨rfl, b4⟩; have B4 : Below W0.heap.size W0 w4 := bel_then (by (with_reducible repeat (first | exact B3 | refine bel_alloc ?_ _ | refine bel_set ?_ _ ?_ | refine blw_drewN ?_ _ | refine Below.drew ?_)); all_goals (first | (simp; done) | (simp; omega) | omega)) b4; clear b4))
      go_ret
      exact ⟨retb (by rw [HMM.out]; rfl), bel_then HB0.out B4⟩
   ·have HM2 := Lib.hid (show M = (q2 && q3) by rw [HMM.out]; cases q0 <;> rfl)
    clear HMM
    cases q2
    ·go_wp2_with (first | (go_at_call 68; refine (hfrom _).mono ?_; rintro e w1 ⟨rfl, b1⟩; have B1 : Below W0.heap.size W0 w1 := bel_then (by (with_reducible repeat (first | exact BW.out | refine bel_alloc ?_ _ | refine bel_set ?_ _ ?_ | refine blw_drewN ?_ _ | refine Below.drew ?_)); all_goals (first | (simp; done) | (simp; omega) | omega)) b1; obtain ⟨c0_, c1_, c2_, c3_⟩ := HC.out _ B1; clear b1) | (go_at_call 34; refine (hin _).mono ?_; rintro e w3 ⟨rfl, rfl⟩; have B3 := B1))
     go_ret
     exact ⟨retb (by rw [HM2.out]; rfl), bel_then HB0.out B3⟩
    ·go_wp2_with (first | (go_at_call 68; refine (hfrom _).mono ?_; rintro e w1 ⟨rfl, b1⟩; have B1 : Below W0.heap.size W0 w1 := bel_then (by (with_reducible repeat (first | exact BW.out | refine bel_alloc ?_ _ | refine bel_set ?_ _ ?_ | refine blw_drewN ?_ _ | refine Below.drew ?_)); all_goals (first | (simp; done) | (simp; omega) | omega)) b1; obtain ⟨c0_, c1_, c2_, c3_⟩ := HC.out _ B1; clear b1) | (go_at_call 34; refine (hin _).mono ?_; rintro e w3 ⟨rfl, rfl⟩; have B3 := B1) | (go_at_call 70; refine (hbody _ (bel_then HB0.out (by (with_reducible repeat (first | exact B3 | refine bel_alloc ?_ _ | refine bel_set ?_ _ ?_ | refine blw_drewN ?_ _ | refine Below.drew ?_)); all_goals (first | (simp; done) | (simp; omega) | omega)))).mono ?_; rintro e w4 ⟨rfl, b4⟩; have B4 : Below W0.heap.size W0 w4 := bel_then (by (with_reducible repeat (first | exact B3 | refine bel_alloc ?_ _ | refine bel_set ?_ _ ?_ | refine blw_drewN ?_ _ | refine Below.drew ?_)); all_goals (first | (simp; done) | (simp; omega) | omega)) b4; clear b4))
     go_ret
     exact ⟨retb (by rw [HM2.out]; rfl), bel_then HB0.out B4⟩

end Go.Proofs.YticepbgacokbbaaGreatDoor
