/- The program's word on aliases: a contract. -/
import Derived.Test.YticepbgacokbbaaGreatDoorAliasD
namespace Go.Proofs.YticepbgacokbbaaGreatDoor
open Go.RowKit Go.Proofs.YticepbgacokbbaaGreatDoorW.PrintWords
set_option linter.unusedVariables false
set_option linter.unusedSimpArgs false

theorem AliasOk1_any (x : SAddr) (w : World) (hx : AFit x) (hG : Glob w) :
  Calls Tryz.prog 64 #[.agg #[.string x.f0, .string x.f1]] w fun e w' => e = .returned (.bool (!addrS x)) ∧ Below w.heap.size w w' := by
 have h1 := fun W (hW : Below w.heap.size w W) => AddrOk_any x.f0 x.f1 W (by have := hx.1; omega) hx.2 (hG.below hW)
 unfold addrS
 generalize addr x.f0.data.toList x.f1.data.toList = q at h1
 have B0 := Below.refl w.heap.size w
 go_enter Tryz.func64, Tryz.ntmps64
 go_wp2_with (go_at_call 38; refine (h1 _ (by (with_reducible repeat (first | exact B0 | refine bel_alloc ?_ _ | refine bel_set ?_ _ ?_ | refine blw_drewN ?_ _ | refine Below.drew ?_)); all_goals (first | (simp; done) | (simp; omega) | omega))).mono ?_; rintro e w1 ⟨rfl, b1⟩; have B1 : Below w.heap.size w w1 := bel_then (by (with_reducible repeat (first | exact B0 | refine bel_alloc ?_ _ | refine bel_set ?_ _ ?_ | refine blw_drewN ?_ _ | refine Below.drew ?_)); all_goals (first | (simp; done) | (simp; omega) | omega)) b1; clear b1)
 go_ret
 exact ⟨retb rfl, B1⟩
set_option maxRecDepth 100000 in
set_option maxHeartbeats 4000000 in
theorem aliasOk_any (A : Option Addr) (c : Nat) (xs : List SAlias) (w : World) (hw : (xs.length ≤ 1048576 ∧ ∀ y ∈ xs, fitAlias y)) (hr : Kd.C kAlias w A xs.length xs) (hG : Glob w) :
  Calls Tryz.prog 25 #[.slice A xs.length c] w fun e w' => e = .returned (.bool (aliasOk xs)) ∧ Below w.heap.size w w' := by
 obtain ⟨hlen, hx⟩ := hw
 have HX := Lib.hid hx
 have hk2 : (xs.map (·.f0)).length ≤ 1048576 := by rw [List.length_map]; exact hlen
 have HA : Hid (∀ a ∈ xs.map (·.f0), AFit a) := Lib.hid (by
  intro a ha
  obtain ⟨r, hr, rfl⟩ := List.mem_map.1 ha
  exact afit_of _ (hx r hr).1)
 have HM := Lib.hid (show aliasOk xs = (xs.all aliasGood && (decide ((xs.map (·.f0)).Nodup) && decide ((xs.length : Int) ≤ 6))) from rfl)
 have HG := Lib.hid hG
 clear hx hG
 generalize aliasOk xs = M at HM
 go_enter Tryz.func25, Tryz.ntmps25
 go_wp2
 go_loopg [3, 9] (xs.length) (fun g v3 v9 wr => ∃ i : Nat, i ≤ xs.length ∧ xs.length - i ≤ g ∧ v9 = .int .i64 i ∧ Aside0 (Below w.heap.size w wr) ∧ Aside0 (Kd.R kAddr 25 wr w.heap.size (fun _ => True) v3 ((xs.take i).map (·.f0))) ∧ Aside0 (∀ j, j < i → aliasGood (xs.getD j zAlias) = true))
 case atStart => exact ⟨0, Nat.zero_le _, by omega, rfl, ⟨Below.refl _ _⟩, ⟨Kd.R_nil _ _ _ _ _⟩, ⟨fun j hj => absurd hj (Nat.not_lt_zero _)⟩⟩
 case round =>
  obtain ⟨i, hi, hg, rfl, BW, HO, H⟩ := hrel
  by_cases hlt : i < xs.length
  ·have hlt' : (i : Int) < (xs.length : Int) := by omega
   obtain ⟨ad, Q0, qc0, e1, p0, p1, p2, l0, k0⟩ := at_Alias (Kd.C_below hr BW.out) i hlt
   subst e1
   have hm := HX.out (xs.getD i zAlias) (getD_mem _ _ hlt)
   have hstep : (xs.take (i + 1)).map (·.f0) = (xs.take i).map (·.f0) ++ [(xs.getD i zAlias).f0] := by
    rw [List.take_succ_eq_append_getElem hlt, List.map_append, List.getD, List.getElem?_eq_getElem hlt]; rfl
   have hln : ((xs.take i).map (·.f0)).length ≤ 1048576 := by rw [List.length_map, List.length_take]; omega
   have hgood : aliasGood (xs.getD i zAlias) = (addrS (xs.getD i zAlias).f0 && ((decide (1 ≤ ((xs.getD i zAlias).f1.length : Int)) && decide (((xs.getD i zAlias).f1.length : Int) ≤ 4)) && !((xs.getD i zAlias).f1.any fun x => !addrS x))) := by unfold aliasGood; rw [List.all_eq_not_any_not]
   generalize hy : xs.getD i zAlias = y at p0 p1 p2 l0 k0 hm hstep hgood
   have h1 := fun W (hW : Below w.heap.size w W) => AddrOk_any y.f0.f0 y.f0.f1 W (by have := hm.1.1; omega) (by have := hm.1.2; omega) (HG.out.below hW)
   have h2 := fun W => within_any (y.f1.length : Int) 1 4 W
   have h3 := fun W (hW : Below w.heap.size w W) => ContainsFunc_Addr 64 #[] (fun x => !addrS x) (enters_of Tryz.func64 (by kernel_rfl) rfl) Q0 qc0 y.f1 W
   unfold addrS at hgood
   have HY := Lib.hid hy
   have HS := Lib.hid hstep
   have h4 := fun W (hW : Below wr.heap.size wr W) => ContainsFunc_Addr 64 #[] (fun x => !addrS x) (enters_of Tryz.func64 (by kernel_rfl) rfl) Q0 qc0 y.f1 W (Kd.C_below k0 hW) (by have := hm.2.1; omega) (fun V z hz hv => AliasOk1_any z V (afit_of z (hm.2.2 z hz)) (HG.out.below (bel_then BW.out (bel_then hW hv))))
   unfold addrS at h4
   clear hy hm hstep h3 l0 k0
   generalize addr y.f0.f0.data.toList y.f0.f1.data.toList = q1 at h1 hgood
   generalize (decide (1 ≤ (y.f1.length : Int)) && decide ((y.f1.length : Int) ≤ 4)) = q2 at h2 hgood
   generalize (y.f1.any fun x => !addr x.f0.data.toList x.f1.data.toList) = q3 at h4 hgood
   generalize (xs.take i).map (·.f0) = ys at HO HS hln
   have HQ := Lib.hid hgood
   clear hgood
   obtain ⟨vB, vd, hv⟩ := Kd.R_slice HO.out
   subst hv
   cases q1
   ·go_wp2_with (first | (go_at_call 38; refine (h1 _ (by (with_reducible repeat (first | exact BW.out | refine bel_alloc ?_ _ | refine bel_set ?_ _ ?_ | refine blw_drewN ?_ _ | refine Below.drew ?_)); all_goals (first | (simp; done) | (simp; omega) | omega))).mono ?_; rintro e w1 ⟨rfl, b1⟩; have B1 : Below w.heap.size w w1 := bel_then (by (with_reducible repeat (first | exact BW.out | refine bel_alloc ?_ _ | refine bel_set ?_ _ ?_ | refine blw_drewN ?_ _ | refine Below.drew ?_)); all_goals (first | (simp; done) | (simp; omega) | omega)) b1; have u0 := (b1.cell (p := ⟨wr.heap.size, 0, none⟩) (by simp)).trans (by simp : _ = some (.string y.f0.f0)); have u1 := (b1.cell (p := ⟨wr.heap.size, 1, none⟩) (by simp)).trans (by simp : _ = some (.string y.f0.f1)); have u2 := (b1.cell (p := ⟨wr.heap.size, 2, none⟩) (by simp)).trans (by simp : _ = some (.slice Q0 y.f1.length qc0)); have HO1 := Aside0.mk (Kd.R_below (Kd.R_alloc HO.out _) b1); have Z1 : wr.heap.size < w1.heap.size := (by have hz := b1.size; (try simp at hz); omega); have W1 := bel_then (bel_alloc (Below.refl wr.heap.size wr) _) b1; clear b1))
    go_ret
    refine ⟨retb ?_, B1⟩
    rw [HM.out, all_getD_false aliasGood xs zAlias i hlt (by rw [HY.out, HQ.out]; rfl)]
    rfl
   ·cases q2
    ·go_wp2_with (first | (go_at_call 38; refine (h1 _ (by (with_reducible repeat (first | exact BW.out | refine bel_alloc ?_ _ | refine bel_set ?_ _ ?_ | refine blw_drewN ?_ _ | refine Below.drew ?_)); all_goals (first | (simp; done) | (simp; omega) | omega))).mono ?_; rintro e w1 ⟨rfl, b1⟩; have B1 : Below w.heap.size w w1 := bel_then (by (with_reducible repeat (first | exact BW.out | refine bel_alloc ?_ _ | refine bel_set ?_ _ ?_ | refine blw_drewN ?_ _ | refine Below.drew ?_)); all_goals (first | (simp; done) | (simp; omega) | omega)) b1; have u0 := (b1.cell (p := ⟨wr.heap.size, 0, none⟩) (by simp)).trans (by simp : _ = some (.string y.f0.f0)); have u1 := (b1.cell (p := ⟨wr.heap.size, 1, none⟩) (by simp)).trans (by simp : _ = some (.string y.f0.f1)); have u2 := (b1.cell (p := ⟨wr.heap.size, 2, none⟩) (by simp)).trans (by simp : _ = some (.slice Q0 y.f1.length qc0)); have HO1 := Aside0.mk (Kd.R_below (Kd.R_alloc HO.out _) b1); have Z1 : wr.heap.size < w1.heap.size := (by have hz := b1.size; (try simp at hz); omega); have W1 := bel_then (bel_alloc (Below.refl wr.heap.size wr) _) b1; clear b1) | (go_at_call 28; refine (h2 _).mono ?_; rintro e w2 ⟨rfl, rfl⟩))
     go_ret
     refine ⟨retb ?_, B1⟩
     rw [HM.out, all_getD_false aliasGood xs zAlias i hlt (by rw [HY.out, HQ.out]; rfl)]
     rfl
    ·cases q3
     ·go_wp2_with (first | (go_at_call 38; refine (h1 _ (by (with_reducible repeat (first | exact BW.out | refine bel_alloc ?_ _ | refine bel_set ?_ _ ?_ | refine blw_drewN ?_ _ | refine Below.drew ?_)); all_goals (first | (simp; done) | (simp; omega) | omega))).mono ?_; rintro e w1 ⟨rfl, b1⟩; have B1 : Below w.heap.size w w1 := bel_then (by (with_reducible repeat (first | exact BW.out | refine bel_alloc ?_ _ | refine bel_set ?_ _ ?_ | refine blw_drewN ?_ _ | refine Below.drew ?_)); all_goals (first | (simp; done) | (simp; omega) | omega)) b1; have u0 := (b1.cell (p := ⟨wr.heap.size, 0, none⟩) (by simp)).trans (by simp : _ = some (.string y.f0.f0)); have u1 := (b1.cell (p := ⟨wr.heap.size, 1, none⟩) (by simp)).trans (by simp : _ = some (.string y.f0.f1)); have u2 := (b1.cell (p := ⟨wr.heap.size, 2, none⟩) (by simp)).trans (by simp : _ = some (.slice Q0 y.f1.length qc0)); have HO1 := Aside0.mk (Kd.R_below (Kd.R_alloc HO.out _) b1); have Z1 : wr.heap.size < w1.heap.size := (by have hz := b1.size; (try simp at hz); omega); have W1 := bel_then (bel_alloc (Below.refl wr.heap.size wr) _) b1; clear b1) | (go_at_call 28; refine (h2 _).mono ?_; rintro e w2 ⟨rfl, rfl⟩) | (go_at_call 40; refine (h4 _ W1).mono ?_; rintro e w3 ⟨rfl, b3⟩; have B3 : Below w.heap.size w w3 := bel_then B1 b3; have t0 := (b3.cell (p := ⟨wr.heap.size, 0, none⟩) Z1).trans u0; have t1 := (b3.cell (p := ⟨wr.heap.size, 1, none⟩) Z1).trans u1; have t2 := (b3.cell (p := ⟨wr.heap.size, 2, none⟩) Z1).trans u2; have HO3 := Aside0.mk (Kd.R_below HO1.out b3); clear b3) | ((with_reducible refine gate_builtin (b := .append) (xs := #[.tmp 30, .tmp 33]) rfl ?_); (try (refine gate_guard (by rfl) ?_; dsimp only)); at_builtin; (refine Kd.R_append kAddr (w0 := w) (w.heap.size) rfl (.tmp 30) (.tmp 33) 26 25 (.agg #[(.string ⟨#[]⟩), (.string ⟨#[]⟩)]) 32 rfl Tryz.underlying26 info25 rfl (by decide) (by omega) (.slice vB ys.length vd) (ys) (y.f0) [.string y.f0.f0, .string y.f0.f1] (fun _ => True) (fun _ => False) rfl rfl (kAddr_mkM _ _ _ y.f0) (fun _ hk => hk.elim) (fun _ _ => trivial) ?aO9 ?aB9 ?aS9 ?aL9 ?_); (case aB9 => exact (by (with_reducible repeat (first | exact B3 | refine bel_alloc ?_ _ | refine bel_set ?_ _ ?_ | refine blw_drewN ?_ _ | refine Below.drew ?_)); all_goals (first | (simp; done) | (simp; omega) | omega))); (case aO9 => exact HO3.out); (case aS9 => (refine Below.size (B := (w.heap.size)) (w := w) ?_; exact (by (with_reducible repeat (first | exact B3 | refine bel_alloc ?_ _ | refine bel_set ?_ _ ?_ | refine blw_drewN ?_ _ | refine Below.drew ?_)); all_goals (first | (simp; done) | (simp; omega) | omega)))); (case aL9 => exact (by omega)); intro v9 w9 ho hb hg hat; have HO9 := Aside0.mk ho; have B9 := hb;  clear ho hb hg hat))
      go_roundg (xs.length - (i + 1))
      case measure => omega
      case rel => exact ⟨i + 1, by omega, Nat.le_refl _, by go_num, ⟨B9⟩, ⟨by rw [HS.out]; exact HO9.out⟩, ⟨fun j hj => by
       by_cases e : j = i
       ·subst e; rw [HY.out, HQ.out]; rfl
       ·exact H.out j (by omega)⟩⟩
     ·go_wp2_with (first | (go_at_call 38; refine (h1 _ (by (with_reducible repeat (first | exact BW.out | refine bel_alloc ?_ _ | refine bel_set ?_ _ ?_ | refine blw_drewN ?_ _ | refine Below.drew ?_)); all_goals (first | (simp; done) | (simp; omega) | omega))).mono ?_; rintro e w1 ⟨rfl, b1⟩; have B1 : Below w.heap.size w w1 := bel_then (by (with_reducible repeat (first | exact BW.out | refine bel_alloc ?_ _ | refine bel_set ?_ _ ?_ | refine blw_drewN ?_ _ | refine Below.drew ?_)); all_goals (first | (simp; done) | (simp; omega) | omega)) b1; have u0 := (b1.cell (p := ⟨wr.heap.size, 0, none⟩) (by simp)).trans (by simp : _ = some (.string y.f0.f0)); have u1 := (b1.cell (p := ⟨wr.heap.size, 1, none⟩) (by simp)).trans (by simp : _ = some (.string y.f0.f1)); have u2 := (b1.cell (p := ⟨wr.heap.size, 2, none⟩) (by simp)).trans (by simp : _ = some (.slice Q0 y.f1.length qc0)); have HO1 := Aside0.mk (Kd.R_below (Kd.R_alloc HO.out _) b1); have Z1 : wr.heap.size < w1.heap.size := (by have hz := b1.size; (try simp at hz); omega); have W1 := bel_then (bel_alloc (Below.refl wr.heap.size wr) _) b1; clear b1) | (go_at_call 28; refine (h2 _).mono ?_; rintro e w2 ⟨rfl, rfl⟩) | (go_at_call 40; refine (h4 _ W1).mono ?_; rintro e w3 ⟨rfl, b3⟩; have B3 : Below w.heap.size w w3 := bel_then B1 b3; have t0 := (b3.cell (p := ⟨wr.heap.size, 0, none⟩) Z1).trans u0; have t1 := (b3.cell (p := ⟨wr.heap.size, 1, none⟩) Z1).trans u1; have t2 := (b3.cell (p := ⟨wr.heap.size, 2, none⟩) Z1).trans u2; have HO3 := Aside0.mk (Kd.R_below HO1.out b3); clear b3))
      go_ret
      refine ⟨retb ?_, B3⟩
      rw [HM.out, all_getD_false aliasGood xs zAlias i hlt (by rw [HY.out, HQ.out]; rfl)]
      rfl
  ·have hlt' : ¬ (i : Int) < (xs.length : Int) := by omega
   have hall : xs.all aliasGood = true := all_upto _ xs zAlias (fun j hj => H.out j (by omega))
   rw [show xs.take i = xs from List.take_of_length_le (by omega)] at HO
   have HAo := HA.out
   clear HA
   have HMM := Lib.hid (show M = (decide ((xs.map (·.f0)).Nodup) && decide ((xs.length : Int) ≤ 6)) by rw [HM.out, hall]; rfl)
   clear hall HM
   generalize xs.map (·.f0) = als at HO HAo HMM hk2
   obtain ⟨vB, vd, hv⟩ := Kd.R_slice HO.out
   subst hv
   have hC := (Kd.R_reads' HO.out).2.2
   have h7 := fun W (hW : Below wr.heap.size wr W) => distinctAddr_any vB vd als W (Kd.C_below hC hW) (by omega) HAo
   clear hC HO HAo
   generalize decide (als.Nodup) = q7 at HMM h7
   by_cases hid : xs.length ≤ 6
   ·have hid1 : decide ((xs.length : Int) ≤ 6) = true := decide_eq_true (by omega)
    go_wp2_with (go_at_call 41; refine (h7 _ (Below.refl _ _)).mono ?_; rintro e w7 ⟨rfl, b7⟩)
    go_ret
    exact ⟨retb (by rw [HMM.out, hid1, Bool.and_true]), bel_then BW.out b7⟩
   ·have hid1 : decide ((xs.length : Int) ≤ 6) = false := decide_eq_false (by omega)
    go_wp2
    go_ret
    exact ⟨retb (by rw [HMM.out, hid1, Bool.and_false]), BW.out⟩

end Go.Proofs.YticepbgacokbbaaGreatDoor
