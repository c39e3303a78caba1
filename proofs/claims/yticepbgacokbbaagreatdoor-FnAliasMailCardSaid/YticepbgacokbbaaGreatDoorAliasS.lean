/- The reference's word on aliases: a contract. -/
import Derived.Test.YticepbgacokbbaaGreatDoorAliasD
import Derived.Test.YticepbgacokbbaaGreatDoorSpoolS
namespace Go.Proofs.YticepbgacokbbaaGreatDoor
open Go.RowKit Go.Proofs.YticepbgacokbbaaGreatDoorW.PrintWords
set_option linter.unusedVariables false
set_option linter.unusedSimpArgs false

attribute [local go_sem high] eqA25
set_option maxRecDepth 100000 in
set_option maxHeartbeats 4000000 in
theorem specAlias_any (A : Option Addr) (c : Nat) (xs : List SAlias) (w : World) (hw : (xs.length ≤ 1048576 ∧ ∀ y ∈ xs, fitAlias y)) (hr : Kd.C kAlias w A xs.length xs) :
  Calls Tryz.prog 30 #[.slice A xs.length c] w fun e w' => e = .returned (.bool (aliasOk xs)) ∧ Below w.heap.size w w' := by
 obtain ⟨hlen, hx⟩ := hw
 have HX := Lib.hid hx
 have HM := Lib.hid (show aliasOk xs = (xs.all aliasGood && (decide ((xs.map (·.f0)).Nodup) && decide ((xs.length : Int) ≤ 6))) from rfl)
 clear hx
 generalize aliasOk xs = M at HM
 go_enter Tryz.func30, Tryz.ntmps30
 go_wp2
 go_loopg [3, 4, 5] (xs.length) (fun g v3 _ _ wr => ∃ i : Nat, i ≤ xs.length ∧ xs.length - i ≤ g ∧ v3 = .int .i64 i ∧ Aside0 (Below w.heap.size w wr) ∧ Aside0 (∀ j, j < i → aliasGood (xs.getD j zAlias) = true) ∧ Aside0 (∀ a b, a < b → b < i → (xs.getD a zAlias).f0 ≠ (xs.getD b zAlias).f0))
 case atStart => exact ⟨0, Nat.zero_le _, by omega, rfl, ⟨Below.refl _ _⟩, ⟨fun j hj => absurd hj (Nat.not_lt_zero _)⟩, ⟨fun a b _ hj => absurd hj (Nat.not_lt_zero _)⟩⟩
 case round =>
  obtain ⟨i, hi, hg, rfl, BW, H, HD⟩ := hrel
  by_cases hlt : i < xs.length
  ·have hlt' : (i : Int) < (xs.length : Int) := by omega
   obtain ⟨ad, Q0, qc0, e1, p0, p1, p2, l0, k0⟩ := at_Alias (Kd.C_below hr BW.out) i hlt
   subst e1
   have hm := HX.out (xs.getD i zAlias) (getD_mem _ _ hlt)
   have hgood : aliasGood (xs.getD i zAlias) = (addrS (xs.getD i zAlias).f0 && ((decide (1 ≤ ((xs.getD i zAlias).f1.length : Int)) && decide (((xs.getD i zAlias).f1.length : Int) ≤ 4)) && (xs.getD i zAlias).f1.all addrS)) := rfl
   generalize hy : xs.getD i zAlias = y at p0 p1 p2 l0 k0 hm hgood
   have h1 := fun W => specAddr_any y.f0.f0 y.f0.f1 W (by have := hm.1.1; omega) (by have := hm.1.2; omega)
   have h2 := fun W => specIn_any (y.f1.length : Int) 1 4 W
   have HY := Lib.hid hy
   have HR := Lib.hid hr
   have HK0 := Lib.hid k0
   have HMm := Lib.hid hm.2
   have HQ := Lib.hid hgood
   have hyl : (y.f1.length : Int) ≤ 1048576 := by have := hm.2.1; omega
   clear hy hm hr k0 l0 hgood
   have hq1 : addrS y.f0 = addr y.f0.f0.data.toList y.f0.f1.data.toList := rfl
   have HQ1 := Lib.hid hq1
   clear hq1
   generalize addr y.f0.f0.data.toList y.f0.f1.data.toList = q1 at h1 HQ1
   generalize hq2 : (decide (1 ≤ (y.f1.length : Int)) && decide ((y.f1.length : Int) ≤ 4)) = q2 at h2
   have HQ2 := Lib.hid hq2
   clear hq2
   cases q1
   ·go_wp2_with (first | (go_at_call 68; refine (h1 _).mono ?_; rintro e w1 ⟨rfl, b1⟩; have B1 : Below w.heap.size w w1 := bel_then BW.out b1; have r2 := (b1.cell (World.block_lt_of_cell? _ _ p2)).trans p2; have r0 := (b1.cell (World.block_lt_of_cell? _ _ p0)).trans p0; clear b1))
    go_ret
    refine ⟨retb ?_, B1⟩
    rw [HM.out, all_getD_false aliasGood xs zAlias i hlt (by rw [HY.out, HQ.out, HQ1.out]; rfl)]
    rfl
   ·cases q2
    ·go_wp2_with (first | (go_at_call 68; refine (h1 _).mono ?_; rintro e w1 ⟨rfl, b1⟩; have B1 : Below w.heap.size w w1 := bel_then BW.out b1; have r2 := (b1.cell (World.block_lt_of_cell? _ _ p2)).trans p2; have r0 := (b1.cell (World.block_lt_of_cell? _ _ p0)).trans p0; clear b1) | (go_at_call 34; refine (h2 _).mono ?_; rintro e w2 ⟨rfl, rfl⟩))
     go_ret
     refine ⟨retb ?_, B1⟩
     rw [HM.out, all_getD_false aliasGood xs zAlias i hlt (by rw [HY.out, HQ.out, HQ2.out]; cases addrS y.f0 <;> rfl)]
     rfl
    ·go_wp2_with (first | (go_at_call 68; refine (h1 _).mono ?_; rintro e w1 ⟨rfl, b1⟩; have B1 : Below w.heap.size w w1 := bel_then BW.out b1; have r2 := (b1.cell (World.block_lt_of_cell? _ _ p2)).trans p2; have r0 := (b1.cell (World.block_lt_of_cell? _ _ p0)).trans p0; clear b1) | (go_at_call 34; refine (h2 _).mono ?_; rintro e w2 ⟨rfl, rfl⟩))
     have B1 := Aside0.mk B1
     clear p0 p1 p2 r2 r0
     go_loopg [4] (y.f1.length) (fun g v4 wr => ∃ k : Nat, k ≤ y.f1.length ∧ y.f1.length - k ≤ g ∧ v4 = .int .i64 k ∧ Aside0 (Below w.heap.size w wr) ∧ Aside0 (∀ j, j < k → addrS (y.f1.getD j zAddr) = true))
     case atStart => exact ⟨0, Nat.zero_le _, by omega, rfl, B1, ⟨fun j hj => absurd hj (Nat.not_lt_zero _)⟩⟩
     case round =>
      clear BW B1
      obtain ⟨k, hk, hgk, rfl, BW, HT⟩ := hrel
      have hr2 := Kd.C_below HR.out BW.out
      obtain ⟨ad1, Q1, qc1, e1, p0, p1, p2, l0, k0⟩ := at_Alias hr2 i hlt
      obtain rfl : ad = ad1 := by injection e1
      rw [HY.out] at p0 p1 p2 l0 k0
      by_cases hlk : k < y.f1.length
      ·have hlk' : (k : Int) < (y.f1.length : Int) := by omega
       obtain ⟨ae, e2, t0, t1⟩ := at_Addr k0 k hlk
       subst e2
       have hz := HMm.out.2 (y.f1.getD k zAddr) (getD_mem _ _ hlk)
       generalize hzz : y.f1.getD k zAddr = z at t0 t1 hz
       have h3 := fun W => specAddr_any z.f0 z.f1 W (by have := hz.1; omega) (by have := hz.2; omega)
       change ∀ W, Calls _ _ _ _ (fun e w' => e = .returned (.bool (addrS z)) ∧ Below W.heap.size W w') at h3
       have HZ := Lib.hid hzz
       clear hz hzz l0 k0 hr2 h1 h2
       cases hq : addrS z
       ·rw [hq] at h3
        have HQ3 := Lib.hid hq
        clear hq
        go_wp2_with (go_at_call 68; refine (h3 _).mono ?_; rintro e w3 ⟨rfl, b3⟩)
        go_ret
        refine ⟨retb ?_, bel_then BW.out b3⟩
        rw [HM.out, all_getD_false aliasGood xs zAlias i hlt (by rw [HY.out, HQ.out, all_getD_false addrS y.f1 zAddr k hlk (by rw [HZ.out]; exact HQ3.out)]; simp)]
        rfl
       ·rw [hq] at h3
        have HQ3 := Lib.hid hq
        clear hq
        go_wp2_with (go_at_call 68; refine (h3 _).mono ?_; rintro e w3 ⟨rfl, b3⟩)
        go_roundg (y.f1.length - (k + 1))
        case measure => omega
        case rel => exact ⟨k + 1, by omega, Nat.le_refl _, by go_num, ⟨bel_then BW.out b3⟩, ⟨fun j hj => by
         by_cases e : j = k
         ·subst e; rw [HZ.out]; exact HQ3.out
         ·exact HT.out j (by omega)⟩⟩
      ·have hlk' : ¬ (k : Int) < (y.f1.length : Int) := by omega
       have HGG := Lib.hid (show aliasGood y = true by rw [HQ.out, HQ1.out, HQ2.out, all_upto addrS y.f1 zAddr (fun j hj => HT.out j (by omega))]; rfl)
       clear l0 k0 h1 h2 hr2 HT
       go_wp2
       clear p0 p1 p2
       go_loopg [5] i (fun g v4 wr => ∃ k : Nat, k ≤ i ∧ i - k ≤ g ∧ v4 = .int .i64 k ∧ Aside0 (Below w.heap.size w wr) ∧ Aside0 (∀ j, j < k → (xs.getD j zAlias).f0 ≠ y.f0))
       case atStart => exact ⟨0, Nat.zero_le _, by omega, rfl, BW, ⟨fun j hj => absurd hj (Nat.not_lt_zero _)⟩⟩
       case round =>
        clear BW
        obtain ⟨k, hk, hgk, rfl, BW, HK⟩ := hrel
        by_cases hlk : k < i
        ·have hlk' : (k : Int) < (i : Int) := by omega
         have hlk2 : (k : Int) < (xs.length : Int) := by omega
         have hr2 := Kd.C_below HR.out BW.out
         obtain ⟨ad1, _, _, e1, p0, p1, _, _, _⟩ := at_Alias hr2 i hlt
         obtain rfl : ad = ad1 := by injection e1
         obtain ⟨ad2, _, _, e2, g0, g1, _, _, _⟩ := at_Alias hr2 k (by omega)
         obtain rfl : ad = ad2 := by injection e2
         have hy1 := HY.out
         rw [hy1] at p0 p1
         generalize hz : xs.getD k zAlias = z at g0 g1
         have heq := addr_eq z.f0 y.f0
         have HZ := Lib.hid hz
         clear hz hy1 hr2 e1 e2
         by_cases hzy : z.f0 = y.f0
         ·rw [decide_eq_true hzy] at heq
          have HZY := Lib.hid hzy
          clear hzy
          go_wp2
          repeat (go_quiet (fail); try go_wp2)
          go_ret
          refine ⟨retb ?_, blw_drewN BW.out _⟩
          rw [HM.out, decide_eq_false (not_nodup (·.f0) xs zAlias k i hlk hlt (by rw [HZ.out, HY.out]; exact HZY.out))]
          simp
         ·rw [decide_eq_false hzy] at heq
          have HZY := Lib.hid hzy
          clear hzy
          go_wp2
          repeat (go_quiet (fail); try go_wp2)
          go_roundg (i - (k + 1))
          case measure => omega
          case rel => exact ⟨k + 1, by omega, Nat.le_refl _, by go_num, ⟨blw_drewN BW.out _⟩, ⟨fun j hj => by
           by_cases e : j = k
           ·subst e; rw [HZ.out]; exact HZY.out
           ·exact HK.out j (by omega)⟩⟩
        ·have hlk' : ¬ (k : Int) < (i : Int) := by omega
         go_wp2
         go_roundg (xs.length - (i + 1))
         case measure => omega
         case rel => exact ⟨i + 1, by omega, Nat.le_refl _, by go_num, BW, ⟨fun j hj => by
          by_cases e : j = i
          ·subst e; rw [HY.out]; exact HGG.out
          ·exact H.out j (by omega)⟩, ⟨fun a b hab hb => by
          by_cases e : b = i
          ·subst e; rw [HY.out]; exact HK.out a (by omega)
          ·exact HD.out a b hab (by omega)⟩⟩
  ·have hlt' : ¬ (i : Int) < (xs.length : Int) := by omega
   have hall : xs.all aliasGood = true := all_upto _ xs zAlias (fun j hj => H.out j (by omega))
   have hnd : (xs.map (·.f0)).Nodup := nodup_at (·.f0) xs zAlias (fun a b hab hb => HD.out a b hab (by omega))
   have HMM := Lib.hid (show M = decide ((xs.length : Int) ≤ 6) by rw [HM.out, hall, decide_eq_true hnd]; rfl)
   clear hall hnd HM
   go_wp2
   go_ret
   refine ⟨retb ?_, BW.out⟩
   first | exact HMM.out.symm | (rw [HMM.out]; exact decide_eq_decide.2 (by omega))
end Go.Proofs.YticepbgacokbbaaGreatDoor
