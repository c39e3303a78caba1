/- The program's word on items: a contract. -/
import Derived.Test.YtiaibgkpohmihaaDoorSpoolD
namespace Go.Proofs.YtiaibgkpohmihaaDoor
open Go.RowKit Go.Proofs.YtiaibgkpohmihaaDoorW.PrintWords
set_option linter.unusedVariables false
set_option linter.unusedSimpArgs false

theorem isTime_any (n : Int) (w : World) : Calls Tryd.prog 58 #[.int .i64 n] w fun e w' => e = .returned (.bool (decide (0 ≤ n) && decide (n ≤ 9999))) ∧ w = w' := by
 have h := fun W => within_any n 0 9999 W
 generalize (decide (0 ≤ n) && decide (n ≤ 9999)) = q at h
 go_enter Tryd.func58, Tryd.ntmps58
 go_wp2_with (go_at_call 42; refine (h _).mono ?_; rintro e w' ⟨rfl, rfl⟩)
 go_ret
 exact ⟨rfl, rfl⟩
set_option maxRecDepth 100000 in
set_option maxHeartbeats 4000000 in
theorem itemRight_any (x : SItem) (A0 : Option Addr) (c0 : Nat) (A1 : Option Addr) (c1 : Nat) (w : World) (hw : fitItem x) (hr0 : Kd.C kRcpt w A0 x.f2.length x.f2) (hr1 : Kd.C Kd.string w A1 x.f3.length x.f3) (hG : Glob w) :
  Calls Tryd.prog 31 #[.agg #[.int .i64 x.f0, .string x.f1.f0, .string x.f1.f1, .slice A0 x.f2.length c0, .slice A1 x.f3.length c1]] w fun e w' => e = .returned (.bool (itemOk x)) ∧ Below w.heap.size w w' := by
 obtain ⟨hw0, hw1, ⟨hlen, hx⟩, hw3⟩ := hw
 have HX := Lib.hid hx
 have hk2 : (x.f2.map (·.f0)).length ≤ 1048576 := by rw [List.length_map]; exact hlen
 have HA : Hid (∀ a ∈ x.f2.map (·.f0), AFit a) := Lib.hid (by
  intro a ha
  obtain ⟨r, hr, rfl⟩ := List.mem_map.1 ha
  exact afit_of _ (hx r hr).1)
 have h5 := fun W (hW : Below w.heap.size w W) => sender_any x.f1.f0 x.f1.f1 W (by have := hw1.1; omega) (by have := hw1.2; omega) (hG.below hW)
 have h6 := fun W => within_any (x.f2.length : Int) 1 4 W
 have h8 := fun W (hW : Below w.heap.size w W) => isBody_any A1 c1 x.f3 W (Kd.C_below hr1 hW) (bfit_of hw3).1 (bfit_of hw3).2
 have HM := Lib.hid (show itemOk x = (x.f2.all rcptOk && (decide ((x.f2.map (·.f0)).Nodup) && (decide (0 < x.f0) && ((nul x.f1.f0.data.toList x.f1.f1.data.toList || addr x.f1.f0.data.toList x.f1.f1.data.toList) && ((decide (1 ≤ (x.f2.length : Int)) && decide ((x.f2.length : Int) ≤ 4)) && bodyOk x.f3))))) from rfl)
 have HG := Lib.hid hG
 clear hx hr1 hw3 hG
 generalize itemOk x = M at HM
 generalize (nul x.f1.f0.data.toList x.f1.f1.data.toList || addr x.f1.f0.data.toList x.f1.f1.data.toList) = q5 at HM h5
 generalize (decide (1 ≤ (x.f2.length : Int)) && decide ((x.f2.length : Int) ≤ 4)) = q6 at HM h6
 generalize bodyOk x.f3 = q8 at HM h8
 go_enter Tryd.func31, Tryd.ntmps31
 go_wp2
 obtain ⟨W0, hW0⟩ : ∃ W0, W0 = w.alloc (.cells #[.int .i64 x.f0, .string x.f1.f0, .string x.f1.f1, .slice A0 x.f2.length c0, .slice A1 x.f3.length c1] 28) := ⟨_, rfl⟩
 rw [← hW0]
 have B0 : Below w.heap.size w W0 := by rw [hW0]; exact (Below.refl _ _).alloc (Nat.le_refl _) _
 have Z0 : w.heap.size < W0.heap.size := by rw [hW0]; simp
 have c0_ : W0.cell? ⟨w.heap.size, 0, none⟩ = some (.int .i64 x.f0) := by rw [hW0]; simp
 have c1_ : W0.cell? ⟨w.heap.size, 1, none⟩ = some (.string x.f1.f0) := by rw [hW0]; simp
 have c2_ : W0.cell? ⟨w.heap.size, 2, none⟩ = some (.string x.f1.f1) := by rw [hW0]; simp
 have c3_ : W0.cell? ⟨w.heap.size, 3, none⟩ = some (.slice A0 x.f2.length c0) := by rw [hW0]; simp
 have c4_ : W0.cell? ⟨w.heap.size, 4, none⟩ = some (.slice A1 x.f3.length c1) := by rw [hW0]; simp
 have HC : Aside0 (∀ W, Below W0.heap.size W0 W → W.cell? ⟨w.heap.size, 0, none⟩ = some (.int .i64 x.f0) ∧ W.cell? ⟨w.heap.size, 1, none⟩ = some (.string x.f1.f0) ∧ W.cell? ⟨w.heap.size, 2, none⟩ = some (.string x.f1.f1) ∧ W.cell? ⟨w.heap.size, 3, none⟩ = some (.slice A0 x.f2.length c0) ∧ W.cell? ⟨w.heap.size, 4, none⟩ = some (.slice A1 x.f3.length c1)) := ⟨fun W h => ⟨(h.cell (p := ⟨w.heap.size, 0, none⟩) Z0).trans c0_, (h.cell (p := ⟨w.heap.size, 1, none⟩) Z0).trans c1_, (h.cell (p := ⟨w.heap.size, 2, none⟩) Z0).trans c2_, (h.cell (p := ⟨w.heap.size, 3, none⟩) Z0).trans c3_, (h.cell (p := ⟨w.heap.size, 4, none⟩) Z0).trans c4_⟩⟩
 clear hW0 c0_ c1_ c2_ c3_ c4_
 have HB0 := Aside0.mk B0
 have hsz := B0.size
 clear B0
 go_loopg [3, 9] (x.f2.length) (fun g v3 v9 wr => ∃ i : Nat, i ≤ x.f2.length ∧ x.f2.length - i ≤ g ∧ v9 = .int .i64 i ∧ Aside0 (Below W0.heap.size W0 wr) ∧ Aside0 (Kd.R kAddr 24 wr W0.heap.size (fun _ => True) v3 ((x.f2.take i).map (·.f0))) ∧ Aside0 (∀ j, j < i → rcptOk (x.f2.getD j zRcpt) = true))
 case atStart => exact ⟨0, Nat.zero_le _, by omega, rfl, ⟨Below.refl _ _⟩, ⟨Kd.R_nil _ _ _ _ _⟩, ⟨fun j hj => absurd hj (Nat.not_lt_zero _)⟩⟩
 case round =>
  obtain ⟨i, hi, hg, rfl, BW, HO, H⟩ := hrel
  obtain ⟨c0_, c1_, c2_, c3_, c4_⟩ := HC.out _ BW.out
  by_cases hlt : i < x.f2.length
  ·have hlt' : (i : Int) < (x.f2.length : Int) := by omega
   obtain ⟨ad, e1, p0, p1, p2, p3⟩ := at_Rcpt (Kd.C_below hr0 (bel_then HB0.out BW.out)) i hlt
   subst e1
   have hm := HX.out (x.f2.getD i zRcpt) (getD_mem _ _ hlt)
   have hstep : (x.f2.take (i + 1)).map (·.f0) = (x.f2.take i).map (·.f0) ++ [(x.f2.getD i zRcpt).f0] := by
    rw [List.take_succ_eq_append_getElem hlt, List.map_append, List.getD, List.getElem?_eq_getElem hlt]; rfl
   have hln : ((x.f2.take i).map (·.f0)).length ≤ 1048576 := by rw [List.length_map, List.length_take]; omega
   have hgood : rcptOk (x.f2.getD i zRcpt) = (addrS (x.f2.getD i zRcpt).f0 && ((decide (0 ≤ (x.f2.getD i zRcpt).f1) && decide ((x.f2.getD i zRcpt).f1 ≤ 3)) && (decide (0 ≤ (x.f2.getD i zRcpt).f2) && decide ((x.f2.getD i zRcpt).f2 ≤ 9999)))) := rfl
   generalize hy : x.f2.getD i zRcpt = y at p0 p1 p2 p3 hm hstep hgood
   have h1 := fun W (hW : Below w.heap.size w W) => AddrOk_any y.f0.f0 y.f0.f1 W (by have := hm.1.1; omega) (by have := hm.1.2; omega) (HG.out.below hW)
   have h2 := fun W => within_any y.f1 0 3 W
   have h3 := fun W => isTime_any y.f2 W
   unfold addrS at hgood
   have HY := Lib.hid hy
   have HS := Lib.hid hstep
   clear hy hm hstep h5 h6 h8
   generalize addr y.f0.f0.data.toList y.f0.f1.data.toList = q1 at h1 hgood
   generalize (decide (0 ≤ y.f1) && decide (y.f1 ≤ 3)) = q2 at h2 hgood
   generalize (decide (0 ≤ y.f2) && decide (y.f2 ≤ 9999)) = q3 at h3 hgood
   generalize (x.f2.take i).map (·.f0) = ys at HO HS hln
   have HQ := Lib.hid hgood
   clear hgood
   obtain ⟨vB, vd, hv⟩ := Kd.R_slice HO.out
   subst hv
   cases q1
   ·go_wp2_with (first | (go_at_call 30; refine (h1 _ (bel_then HB0.out (by (with_reducible repeat (first | exact BW.out | refine bel_alloc ?_ _ | refine bel_set ?_ _ ?_ | refine blw_drewN ?_ _ | refine Below.drew ?_)); all_goals (first | (simp; done) | (simp; omega) | omega)))).mono ?_; rintro e w1 ⟨rfl, b1⟩; have B1 : Below W0.heap.size W0 w1 := bel_then (by (with_reducible repeat (first | exact BW.out | refine bel_alloc ?_ _ | refine bel_set ?_ _ ?_ | refine blw_drewN ?_ _ | refine Below.drew ?_)); all_goals (first | (simp; done) | (simp; omega) | omega)) b1; obtain ⟨d0_, d1_, d2_, d3_, d4_⟩ := HC.out _ B1; have u0 := (b1.cell (p := ⟨wr.heap.size, 0, none⟩) (by simp)).trans (by simp : _ = some (.string y.f0.f0)); have u1 := (b1.cell (p := ⟨wr.heap.size, 1, none⟩) (by simp)).trans (by simp : _ = some (.string y.f0.f1)); have u2 := (b1.cell (p := ⟨wr.heap.size, 2, none⟩) (by simp)).trans (by simp : _ = some (.int .i64 y.f1)); have u3 := (b1.cell (p := ⟨wr.heap.size, 3, none⟩) (by simp)).trans (by simp : _ = some (.int .i64 y.f2)); have HO1 := Aside0.mk (Kd.R_below (Kd.R_alloc HO.out _) b1); clear b1))
    go_ret
    refine ⟨retb ?_, bel_then HB0.out B1⟩
    rw [HM.out, all_getD_false rcptOk x.f2 zRcpt i hlt (by rw [HY.out, HQ.out]; rfl)]
    rfl
   ·cases q2
    ·go_wp2_with (first | (go_at_call 30; refine (h1 _ (bel_then HB0.out (by (with_reducible repeat (first | exact BW.out | refine bel_alloc ?_ _ | refine bel_set ?_ _ ?_ | refine blw_drewN ?_ _ | refine Below.drew ?_)); all_goals (first | (simp; done) | (simp; omega) | omega)))).mono ?_; rintro e w1 ⟨rfl, b1⟩; have B1 : Below W0.heap.size W0 w1 := bel_then (by (with_reducible repeat (first | exact BW.out | refine bel_alloc ?_ _ | refine bel_set ?_ _ ?_ | refine blw_drewN ?_ _ | refine Below.drew ?_)); all_goals (first | (simp; done) | (simp; omega) | omega)) b1; obtain ⟨d0_, d1_, d2_, d3_, d4_⟩ := HC.out _ B1; have u0 := (b1.cell (p := ⟨wr.heap.size, 0, none⟩) (by simp)).trans (by simp : _ = some (.string y.f0.f0)); have u1 := (b1.cell (p := ⟨wr.heap.size, 1, none⟩) (by simp)).trans (by simp : _ = some (.string y.f0.f1)); have u2 := (b1.cell (p := ⟨wr.heap.size, 2, none⟩) (by simp)).trans (by simp : _ = some (.int .i64 y.f1)); have u3 := (b1.cell (p := ⟨wr.heap.size, 3, none⟩) (by simp)).trans (by simp : _ = some (.int .i64 y.f2)); have HO1 := Aside0.mk (Kd.R_below (Kd.R_alloc HO.out _) b1); clear b1) | (go_at_call 42; refine (h2 _).mono ?_; rintro e w2 ⟨rfl, rfl⟩))
     go_ret
     refine ⟨retb ?_, bel_then HB0.out B1⟩
     rw [HM.out, all_getD_false rcptOk x.f2 zRcpt i hlt (by rw [HY.out, HQ.out]; rfl)]
     rfl
    ·cases q3
     ·go_wp2_with (first | (go_at_call 30; refine (h1 _ (bel_then HB0.out (by (with_reducible repeat (first | exact BW.out | refine bel_alloc ?_ _ | refine bel_set ?_ _ ?_ | refine blw_drewN ?_ _ | refine Below.drew ?_)); all_goals (first | (simp; done) | (simp; omega) | omega)))).mono ?_; rintro e w1 ⟨rfl, b1⟩; have B1 : Below W0.heap.size W0 w1 := bel_then (by (with_reducible repeat (first | exact BW.out | refine bel_alloc ?_ _ | refine bel_set ?_ _ ?_ | refine blw_drewN ?_ _ | refine Below.drew ?_)); all_goals (first | (simp; done) | (simp; omega) | omega)) b1; obtain ⟨d0_, d1_, d2_, d3_, d4_⟩ := HC.out _ B1; have u0 := (b1.cell (p := ⟨wr.heap.size, 0, none⟩) (by simp)).trans (by simp : _ = some (.string y.f0.f0)); have u1 := (b1.cell (p := ⟨wr.heap.size, 1, none⟩) (by simp)).trans (by simp : _ = some (.string y.f0.f1)); have u2 := (b1.cell (p := ⟨wr.heap.size, 2, none⟩) (by simp)).trans (by simp : _ = some (.int .i64 y.f1)); have u3 := (b1.cell (p := ⟨wr.heap.size, 3, none⟩) (by simp)).trans (by simp : _ = some (.int .i64 y.f2)); have HO1 := Aside0.mk (Kd.R_below (Kd.R_alloc HO.out _) b1); clear b1) | (go_at_call 42; refine (h2 _).mono ?_; rintro e w2 ⟨rfl, rfl⟩) | (go_at_call 58; refine (h3 _).mono ?_; rintro e w3 ⟨rfl, rfl⟩))
      go_ret
      refine ⟨retb ?_, bel_then HB0.out B1⟩
      rw [HM.out, all_getD_false rcptOk x.f2 zRcpt i hlt (by rw [HY.out, HQ.out]; rfl)]
      rfl
     ·go_wp2_with (first | (go_at_call 30; refine (h1 _ (bel_then HB0.out (by (with_reducible repeat (first | exact BW.out | refine bel_alloc ?_ _ | refine bel_set ?_ _ ?_ | refine blw_drewN ?_ _ | refine Below.drew ?_)); all_goals (first | (simp; done) | (simp; omega) | omega)))).mono ?_; rintro e w1 ⟨rfl, b1⟩; have B1 : Below W0.heap.size W0 w1 := bel_then (by (with_reducible repeat (first | exact BW.out | refine bel_alloc ?_ _ | refine bel_set ?_ _ ?_ | refine blw_drewN ?_ _ | refine Below.drew ?_)); all_goals (first | (simp; done) | (simp; omega) | omega)) b1; obtain ⟨d0_, d1_, d2_, d3_, d4_⟩ := HC.out _ B1; have u0 := (b1.cell (p := ⟨wr.heap.size, 0, none⟩) (by simp)).trans (by simp : _ = some (.string y.f0.f0)); have u1 := (b1.cell (p := ⟨wr.heap.size, 1, none⟩) (by simp)).trans (by simp : _ = some (.string y.f0.f1)); have u2 := (b1.cell (p := ⟨wr.heap.size, 2, none⟩) (by simp)).trans (by simp : _ = some (.int .i64 y.f1)); have u3 := (b1.cell (p := ⟨wr.heap.size, 3, none⟩) (by simp)).trans (by simp : _ = some (.int .i64 y.f2)); have HO1 := Aside0.mk (Kd.R_below (Kd.R_alloc HO.out _) b1); clear b1) | (go_at_call 42; refine (h2 _).mono ?_; rintro e w2 ⟨rfl, rfl⟩) | (go_at_call 58; refine (h3 _).mono ?_; rintro e w3 ⟨rfl, rfl⟩) | ((with_reducible refine gate_builtin (b := .append) (xs := #[.tmp 29, .tmp 32]) rfl ?_); (try (refine gate_guard (by rfl) ?_; dsimp only)); at_builtin; (refine Kd.R_append kAddr (w0 := W0) (W0.heap.size) rfl (.tmp 29) (.tmp 32) 31 24 (.agg #[(.string ⟨#[]⟩), (.string ⟨#[]⟩)]) 32 rfl Tryd.underlying31 info24 rfl (by decide) (by omega) (.slice vB ys.length vd) (ys) (y.f0) [.string y.f0.f0, .string y.f0.f1] (fun _ => True) (fun _ => False) rfl rfl (kAddr_mkM _ _ _ y.f0) (fun _ hk => hk.elim) (fun _ _ => trivial) ?aO9 ?aB9 ?aS9 ?aL9 ?_); (case aB9 => exact (by (with_reducible repeat (first | exact B1 | refine bel_alloc ?_ _ | refine bel_set ?_ _ ?_ | refine blw_drewN ?_ _ | refine Below.drew ?_)); all_goals (first | (simp; done) | (simp; omega) | omega))); (case aO9 => exact HO1.out); (case aS9 => (refine Below.size (B := (W0.heap.size)) (w := W0) ?_; exact (by (with_reducible repeat (first | exact B1 | refine bel_alloc ?_ _ | refine bel_set ?_ _ ?_ | refine blw_drewN ?_ _ | refine Below.drew ?_)); all_goals (first | (simp; done) | (simp; omega) | omega)))); (case aL9 => exact (by omega)); intro v9 w9 ho hb hg hat; have HO9 := Aside0.mk ho; have B9 := hb;  clear ho hb hg hat))
      go_roundg (x.f2.length - (i + 1))
      case measure => omega
      case rel => exact ⟨i + 1, by omega, Nat.le_refl _, by go_num, ⟨B9⟩, ⟨by rw [HS.out]; exact HO9.out⟩, ⟨fun j hj => by
       by_cases e : j = i
       ·subst e; rw [HY.out, HQ.out]; rfl
       ·exact H.out j (by omega)⟩⟩
  ·have hlt' : ¬ (i : Int) < (x.f2.length : Int) := by omega
   have hall : x.f2.all rcptOk = true := all_upto _ x.f2 zRcpt (fun j hj => H.out j (by omega))
   rw [show x.f2.take i = x.f2 from List.take_of_length_le (by omega)] at HO
   have HAo := HA.out
   clear HA
   have HMM := Lib.hid (show M = (decide ((x.f2.map (·.f0)).Nodup) && (decide (0 < x.f0) && (q5 && (q6 && q8)))) by rw [HM.out, hall]; rfl)
   clear hall HM
   generalize x.f2.map (·.f0) = als at HO HAo HMM hk2
   obtain ⟨vB, vd, hv⟩ := Kd.R_slice HO.out
   subst hv
   have hC := (Kd.R_reads' HO.out).2.2
   have h7 := fun W (hW : Below wr.heap.size wr W) => distinctAddr_any vB vd als W (Kd.C_below hC hW) (by omega) HAo
   clear hC HO HAo
   generalize decide (als.Nodup) = q7 at HMM h7
   by_cases hid : 0 < x.f0
   ·have hid1 : decide (0 < x.f0) = true := decide_eq_true hid
    have hid2 : decide (x.f0 > 0) = true := hid1
    rw [decide_eq_true hid] at HMM
    cases q5
    ·go_wp2_with (first | (go_at_call 41; refine (h5 _ (bel_then HB0.out (by (with_reducible repeat (first | exact BW.out | refine bel_alloc ?_ _ | refine bel_set ?_ _ ?_ | refine blw_drewN ?_ _ | refine Below.drew ?_)); all_goals (first | (simp; done) | (simp; omega) | omega)))).mono ?_; rintro e w5 ⟨rfl, b5⟩; have B5 : Below W0.heap.size W0 w5 := bel_then (by (with_reducible repeat (first | exact BW.out | refine bel_alloc ?_ _ | refine bel_set ?_ _ ?_ | refine blw_drewN ?_ _ | refine Below.drew ?_)); all_goals (first | (simp; done) | (simp; omega) | omega)) b5; obtain ⟨s0_, s1_, s2_, s3_, s4_⟩ := HC.out _ B5; have b5w := b5; clear b5))
     go_ret
     exact ⟨retb (by rw [HMM.out]; cases q7 <;> rfl), bel_then HB0.out B5⟩
    ·cases q6
     ·go_wp2_with (first | (go_at_call 41; refine (h5 _ (bel_then HB0.out (by (with_reducible repeat (first | exact BW.out | refine bel_alloc ?_ _ | refine bel_set ?_ _ ?_ | refine blw_drewN ?_ _ | refine Below.drew ?_)); all_goals (first | (simp; done) | (simp; omega) | omega)))).mono ?_; rintro e w5 ⟨rfl, b5⟩; have B5 : Below W0.heap.size W0 w5 := bel_then (by (with_reducible repeat (first | exact BW.out | refine bel_alloc ?_ _ | refine bel_set ?_ _ ?_ | refine blw_drewN ?_ _ | refine Below.drew ?_)); all_goals (first | (simp; done) | (simp; omega) | omega)) b5; obtain ⟨s0_, s1_, s2_, s3_, s4_⟩ := HC.out _ B5; have b5w := b5; clear b5) | (go_at_call 42; refine (h6 _).mono ?_; rintro e w6 ⟨rfl, rfl⟩))
      go_ret
      exact ⟨retb (by rw [HMM.out]; cases q7 <;> rfl), bel_then HB0.out B5⟩
     ·cases q7
      ·go_wp2_with (first | (go_at_call 41; refine (h5 _ (bel_then HB0.out (by (with_reducible repeat (first | exact BW.out | refine bel_alloc ?_ _ | refine bel_set ?_ _ ?_ | refine blw_drewN ?_ _ | refine Below.drew ?_)); all_goals (first | (simp; done) | (simp; omega) | omega)))).mono ?_; rintro e w5 ⟨rfl, b5⟩; have B5 : Below W0.heap.size W0 w5 := bel_then (by (with_reducible repeat (first | exact BW.out | refine bel_alloc ?_ _ | refine bel_set ?_ _ ?_ | refine blw_drewN ?_ _ | refine Below.drew ?_)); all_goals (first | (simp; done) | (simp; omega) | omega)) b5; obtain ⟨s0_, s1_, s2_, s3_, s4_⟩ := HC.out _ B5; have b5w := b5; clear b5) | (go_at_call 42; refine (h6 _).mono ?_; rintro e w6 ⟨rfl, rfl⟩) | (go_at_call 44; refine (h7 _ b5w).mono ?_; rintro e w7 ⟨rfl, b7⟩; have B7 : Below W0.heap.size W0 w7 := bel_then B5 b7; obtain ⟨t0_, t1_, t2_, t3_, t4_⟩ := HC.out _ B7; clear b7))
       go_ret
       exact ⟨retb (by rw [HMM.out]; rfl), bel_then HB0.out B7⟩
      ·go_wp2_with (first | (go_at_call 41; refine (h5 _ (bel_then HB0.out (by (with_reducible repeat (first | exact BW.out | refine bel_alloc ?_ _ | refine bel_set ?_ _ ?_ | refine blw_drewN ?_ _ | refine Below.drew ?_)); all_goals (first | (simp; done) | (simp; omega) | omega)))).mono ?_; rintro e w5 ⟨rfl, b5⟩; have B5 : Below W0.heap.size W0 w5 := bel_then (by (with_reducible repeat (first | exact BW.out | refine bel_alloc ?_ _ | refine bel_set ?_ _ ?_ | refine blw_drewN ?_ _ | refine Below.drew ?_)); all_goals (first | (simp; done) | (simp; omega) | omega)) b5; obtain ⟨s0_, s1_, s2_, s3_, s4_⟩ := HC.out _ B5; have b5w := b5; clear b5) | (go_at_call 42; refine (h6 _).mono ?_; rintro e w6 ⟨rfl, rfl⟩) | (go_at_call 44; refine (h7 _ b5w).mono ?_; rintro e w7 ⟨rfl, b7⟩; have B7 : Below W0.heap.size W0 w7 := bel_then B5 b7; obtain ⟨t0_, t1_, t2_, t3_, t4_⟩ := HC.out _ B7; clear b7) | (go_at_call 45; refine (h8 _ (bel_then HB0.out (by (with_reducible repeat (first | exact B7 | refine bel_alloc ?_ _ | refine bel_set ?_ _ ?_ | refine blw_drewN ?_ _ | refine Below.drew ?_)); all_goals (first | (simp; done) | (simp; omega) | omega)))).mono ?_; rintro e w8 ⟨rfl, b8⟩; have B8 : Below W0.heap.size W0 w8 := bel_then (by (with_reducible repeat (first | exact B7 | refine bel_alloc ?_ _ | refine bel_set ?_ _ ?_ | refine blw_drewN ?_ _ | refine Below.drew ?_)); all_goals (first | (simp; done) | (simp; omega) | omega)) b8; clear b8))
       go_ret
       exact ⟨retb (by rw [HMM.out]; rfl), bel_then HB0.out B8⟩
   ·have hid1 : decide (0 < x.f0) = false := decide_eq_false hid
    have hid2 : decide (x.f0 > 0) = false := hid1
    rw [decide_eq_false hid] at HMM
    go_wp2
    go_ret
    exact ⟨retb (by rw [HMM.out]; cases q7 <;> rfl), bel_then HB0.out BW.out⟩

end Go.Proofs.YtiaibgkpohmihaaDoor
