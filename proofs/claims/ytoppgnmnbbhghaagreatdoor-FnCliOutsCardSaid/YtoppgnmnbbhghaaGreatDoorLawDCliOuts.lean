/- The law FnCliOuts, walked. -/
import Derived.Test.YtoppgnmnbbhghaaGreatDoorDrawCliOuts
import Derived.Test.YtoppgnmnbbhghaaGreatDoorSaB
import Derived.Test.YtoppgnmnbbhghaaGreatDoorCliOS
namespace Go.Proofs.YtoppgnmnbbhghaaGreatDoor
open Go.RowKit Go.Proofs.YtoppgnmnbbhghaaGreatDoorW.PrintWords
set_option linter.unusedVariables false
set_option linter.unusedSimpArgs false

theorem bounds_u8' {n : Int} (h : (Lit.int .u8 n).wf = true) : 0 ≤ n ∧ n ≤ 255 := by
  simp [Lit.wf, IntKind.min, IntKind.max, IntKind.signed, IntKind.bits] at h
  omega
theorem cliOuts_fit' {c : SCli} (hc : fitCli c) : (cliOuts c).length ≤ 1048576 ∧ ∀ y ∈ cliOuts c, (Lit.int .i64 y).wf = true := by
  unfold cliOuts
  split
  · refine ⟨by rw [becomes_length]; exact hc.2.2.2.2.1, fun y hy => ?_⟩
    unfold becomes at hy
    obtain ⟨x, hx, rfl⟩ := List.mem_map.1 hy
    split
    · decide
    · exact hc.2.2.2.2.2 x hx
  · exact ⟨Nat.zero_le _, fun y hy => by cases hy⟩
theorem becomes_at (xs : List Int) (i : Nat) (h : i < xs.length) : (becomes 3 [0, 1] xs).getD i 0 = if xs.getD i 0 = 0 ∨ xs.getD i 0 = 1 then 3 else xs.getD i 0 := by
  unfold becomes
  rw [List.getD, List.getD, List.getElem?_map, List.getElem?_eq_getElem h]
  simp only [Option.map_some, Option.getD_some, has, List.any_cons, List.any_nil, Bool.or_false, Bool.or_eq_true, decide_eq_true_eq]
theorem outs_le {c : SCli} (h : cliOk c = true) : ∀ y ∈ c.f4, 0 ≤ y ∧ y ≤ 4 := by
  unfold cliOk at h
  simp only [Bool.and_eq_true] at h
  intro y hy
  have := List.all_eq_true.1 h.2.2.2.2.2.2 y hy
  unfold outOk at this
  simp only [Bool.and_eq_true, decide_eq_true_eq] at this
  exact this
set_option maxRecDepth 100000 in
set_option maxHeartbeats 40000000 in
theorem walk_FnCliOuts {w : World} (A : Option Addr) (c : Nat) (xs : List Int) (hr : Kd.C (Kd.int .u8) w A xs.length xs) (hg : xs.length ≤ 9223372036854775807 ∧ ∀ y ∈ xs, (Lit.int .u8 y).wf = true) (hc : xs.length ≤ c) (hG : Glob w) :
    Calls Tryz.prog 3 #[.slice A xs.length c] w fun e w' => e = .returned (.bool true) ∧ Below w.heap.size w w' := by
  by_cases n_code : (1048576 : Int) < (xs.length : Int)
  · generalize xs.length = L at n_code
    go_enter Tryz.func3, Tryz.ntmps3
    go_wp2
    go_ret
    exact ⟨rfl, Below.refl _ _⟩
  have hd := drawCliOuts_any A c xs w ⟨by omega, fun y hy => by have := bounds_u8' (hg.2 y hy); omega⟩ hc hr
  clear hr hg hc
  generalize xs.length = L at n_code hd
  go_enter Tryz.func3, Tryz.ntmps3
  go_wp2_with fail
  refine Calls.mono hd ?_
  rintro e w1 ⟨x, A0, c0, A1, c1, A2, c2, rfl, hf, r0, r1, r2, b1⟩
  have HG := Lib.hid (hG.below b1)
  have BW := Lib.hid b1
  have SZ := Lib.hid b1.size
  clear hd hG b1

  have C0 := Aside0.mk (Kd.R_reads' r0).2.2
  have C1 := Aside0.mk (Kd.R_reads' r1).2.2
  have C2 := Aside0.mk (Kd.R_reads' r2).2.2
  have hof := cliOuts_fit' hf
  obtain ⟨M, hM⟩ : ∃ M, M = cliOuts x := ⟨_, rfl⟩
  rw [← hM] at hof
  have HM := Lib.hid hM.symm
  have HOF := Lib.hid hof
  have HMO := Lib.hid hM
  obtain ⟨q, hq⟩ : ∃ q, q = cliOk x := ⟨_, rfl⟩
  have HQ := Lib.hid hq.symm
  clear r0 r1 r2 hof hM hq
  go_wp2_with fail
  obtain ⟨W0, hW0⟩ : ∃ W0, W0 = w1.alloc (.cells #[.string x.f0, .string x.f1.f0.f0, .string x.f1.f0.f1, .slice A0 x.f1.f1.length c0, .slice A1 x.f1.f2.length c1, .int .i64 x.f2, .int .i64 x.f3, .slice A2 x.f4.length c2] 31) := ⟨_, rfl⟩
  rw [← hW0]
  have B0 : Below w1.heap.size w1 W0 := by rw [hW0]; exact (Below.refl _ _).alloc (Nat.le_refl _) _
  have Z0 : w1.heap.size < W0.heap.size := by rw [hW0]; simp
  have c0_ : W0.cell? ⟨w1.heap.size, 0, none⟩ = some (.string x.f0) := by rw [hW0]; simp
  have c1_ : W0.cell? ⟨w1.heap.size, 1, none⟩ = some (.string x.f1.f0.f0) := by rw [hW0]; simp
  have c2_ : W0.cell? ⟨w1.heap.size, 2, none⟩ = some (.string x.f1.f0.f1) := by rw [hW0]; simp
  have c3_ : W0.cell? ⟨w1.heap.size, 3, none⟩ = some (.slice A0 x.f1.f1.length c0) := by rw [hW0]; simp
  have c4_ : W0.cell? ⟨w1.heap.size, 4, none⟩ = some (.slice A1 x.f1.f2.length c1) := by rw [hW0]; simp
  have c5_ : W0.cell? ⟨w1.heap.size, 5, none⟩ = some (.int .i64 x.f2) := by rw [hW0]; simp
  have c6_ : W0.cell? ⟨w1.heap.size, 6, none⟩ = some (.int .i64 x.f3) := by rw [hW0]; simp
  have c7_ : W0.cell? ⟨w1.heap.size, 7, none⟩ = some (.slice A2 x.f4.length c2) := by rw [hW0]; simp
  have HC : Aside0 (∀ W, Below W0.heap.size W0 W → W.cell? ⟨w1.heap.size, 0, none⟩ = some (.string x.f0) ∧ W.cell? ⟨w1.heap.size, 1, none⟩ = some (.string x.f1.f0.f0) ∧ W.cell? ⟨w1.heap.size, 2, none⟩ = some (.string x.f1.f0.f1) ∧ W.cell? ⟨w1.heap.size, 3, none⟩ = some (.slice A0 x.f1.f1.length c0) ∧ W.cell? ⟨w1.heap.size, 4, none⟩ = some (.slice A1 x.f1.f2.length c1) ∧ W.cell? ⟨w1.heap.size, 5, none⟩ = some (.int .i64 x.f2) ∧ W.cell? ⟨w1.heap.size, 6, none⟩ = some (.int .i64 x.f3) ∧ W.cell? ⟨w1.heap.size, 7, none⟩ = some (.slice A2 x.f4.length c2)) := ⟨fun W h => ⟨(h.cell (p := ⟨w1.heap.size, 0, none⟩) Z0).trans c0_, (h.cell (p := ⟨w1.heap.size, 1, none⟩) Z0).trans c1_, (h.cell (p := ⟨w1.heap.size, 2, none⟩) Z0).trans c2_, (h.cell (p := ⟨w1.heap.size, 3, none⟩) Z0).trans c3_, (h.cell (p := ⟨w1.heap.size, 4, none⟩) Z0).trans c4_, (h.cell (p := ⟨w1.heap.size, 5, none⟩) Z0).trans c5_, (h.cell (p := ⟨w1.heap.size, 6, none⟩) Z0).trans c6_, (h.cell (p := ⟨w1.heap.size, 7, none⟩) Z0).trans c7_⟩⟩
  clear hW0 c0_ c1_ c2_ c3_ c4_ c5_ c6_ c7_
  have HB0 := Aside0.mk B0
  have hsz := B0.size
  clear B0
  obtain ⟨c0_, c1_, c2_, c3_, c4_, c5_, c6_, c7_⟩ := HC.out _ (Below.refl _ _)
  go_wp2_with fail
  refine Calls.mono ((fun (W : World) (hW : Below w1.heap.size w1 W) => cliOuts_any x A0 c0 A1 c1 A2 c2 W hf (Kd.C_below C0.out hW) (Kd.C_below C1.out hW) (Kd.C_below C2.out hW) (HG.out.below hW)) _ (bel_then HB0.out (by (with_reducible repeat (first | exact (Below.refl W0.heap.size W0) | refine bel_alloc ?_ _ | refine bel_set ?_ _ ?_ | refine blw_drewN ?_ _ | refine Below.drew ?_)); all_goals (first | (simp; done) | (simp; omega) | omega)))) ?_
  rintro e w2 ⟨D1, e1, rfl, g1, b2⟩
  have B2 : Below W0.heap.size W0 w2 := bel_then (by (with_reducible repeat (first | exact (Below.refl W0.heap.size W0) | refine bel_alloc ?_ _ | refine bel_set ?_ _ ?_ | refine blw_drewN ?_ _ | refine Below.drew ?_)); all_goals (first | (simp; done) | (simp; omega) | omega)) b2
  clear c0_ c1_ c2_ c3_ c4_ c5_ c6_ c7_
  obtain ⟨c0_, c1_, c2_, c3_, c4_, c5_, c6_, c7_⟩ := HC.out _ B2
  rw [HM.out] at g1 ⊢
  have G1 := Aside0.mk (Kd.R_reads' g1).2.2
  have Q2 := Lib.hid (Below.refl w2.heap.size w2)
  clear g1 b2
  go_wp2_with fail
  refine Calls.mono ((fun (W : World) (hW : Below w1.heap.size w1 W) => specCliOuts_any x A0 c0 A1 c1 A2 c2 W hf (Kd.C_below C0.out hW) (Kd.C_below C1.out hW) (Kd.C_below C2.out hW)) _ (bel_then HB0.out (by (with_reducible repeat (first | exact B2 | refine bel_alloc ?_ _ | refine bel_set ?_ _ ?_ | refine blw_drewN ?_ _ | refine Below.drew ?_)); all_goals (first | (simp; done) | (simp; omega) | omega)))) ?_
  rintro e w3 ⟨D2, e2, rfl, g2, b3⟩
  have B3 : Below W0.heap.size W0 w3 := bel_then (by (with_reducible repeat (first | exact B2 | refine bel_alloc ?_ _ | refine bel_set ?_ _ ?_ | refine blw_drewN ?_ _ | refine Below.drew ?_)); all_goals (first | (simp; done) | (simp; omega) | omega)) b3
  clear c0_ c1_ c2_ c3_ c4_ c5_ c6_ c7_
  obtain ⟨c0_, c1_, c2_, c3_, c4_, c5_, c6_, c7_⟩ := HC.out _ B3
  rw [HM.out] at g2 ⊢
  have G2 := Aside0.mk (Kd.R_reads' g2).2.2
  have Q3 := Lib.hid b3
  clear g2 b3
  go_wp2_with fail
  refine Calls.mono (saInts_any D1 e1 D2 e2 M w3 HOF.out (Kd.C_below G1.out Q3.out) G2.out) ?_
  rintro e w4 ⟨rfl, b4⟩
  have B4 : Below W0.heap.size W0 w4 := bel_then B3 b4
  clear c0_ c1_ c2_ c3_ c4_ c5_ c6_ c7_
  obtain ⟨c0_, c1_, c2_, c3_, c4_, c5_, c6_, c7_⟩ := HC.out _ B4
  have b234 := bel_then Q3.out b4
  clear b4
  go_wp2_with fail
  refine Calls.mono ((fun (W : World) (hW : Below w1.heap.size w1 W) => cliOk_any x A0 c0 A1 c1 A2 c2 W hf (Kd.C_below C0.out hW) (Kd.C_below C1.out hW) (Kd.C_below C2.out hW) (HG.out.below hW)) _ (bel_then HB0.out (by (with_reducible repeat (first | exact B4 | refine bel_alloc ?_ _ | refine bel_set ?_ _ ?_ | refine blw_drewN ?_ _ | refine Below.drew ?_)); all_goals (first | (simp; done) | (simp; omega) | omega)))) ?_
  rintro e w5 ⟨rfl, b5⟩
  have B5 : Below W0.heap.size W0 w5 := bel_then (by (with_reducible repeat (first | exact B4 | refine bel_alloc ?_ _ | refine bel_set ?_ _ ?_ | refine blw_drewN ?_ _ | refine Below.drew ?_)); all_goals (first | (simp; done) | (simp; omega) | omega)) b5
  clear c0_ c1_ c2_ c3_ c4_ c5_ c6_ c7_
  obtain ⟨c0_, c1_, c2_, c3_, c4_, c5_, c6_, c7_⟩ := HC.out _ B5
  rw [HQ.out]
  have b234 := bel_then b234 b5
  clear b5
  cases q
  · -- not ok: the same once more
    go_wp2_with fail
    refine Calls.mono ((fun (W : World) (hW : Below w1.heap.size w1 W) => specCliOuts_any x A0 c0 A1 c1 A2 c2 W hf (Kd.C_below C0.out hW) (Kd.C_below C1.out hW) (Kd.C_below C2.out hW)) _ (bel_then HB0.out (by (with_reducible repeat (first | exact B5 | refine bel_alloc ?_ _ | refine bel_set ?_ _ ?_ | refine blw_drewN ?_ _ | refine Below.drew ?_)); all_goals (first | (simp; done) | (simp; omega) | omega)))) ?_
    rintro e w7 ⟨D3, e3, rfl, g3, b7⟩
    have B7 : Below W0.heap.size W0 w7 := bel_then (by (with_reducible repeat (first | exact B5 | refine bel_alloc ?_ _ | refine bel_set ?_ _ ?_ | refine blw_drewN ?_ _ | refine Below.drew ?_)); all_goals (first | (simp; done) | (simp; omega) | omega)) b7
    clear c0_ c1_ c2_ c3_ c4_ c5_ c6_ c7_
    obtain ⟨c0_, c1_, c2_, c3_, c4_, c5_, c6_, c7_⟩ := HC.out _ B7
    rw [HM.out] at g3 ⊢
    have G3 := Aside0.mk (Kd.R_reads' g3).2.2
    have b234 := bel_then b234 b7
    clear g3 b7
    go_wp2_with fail
    refine Calls.mono (saInts_any D1 e1 D3 e3 M w7 HOF.out (Kd.C_below G1.out b234) G3.out) ?_
    rintro e w8 ⟨rfl, b8⟩
    have B6 : Below W0.heap.size W0 w8 := bel_then B7 b8
    clear b8
    go_wp2
    go_ret
    exact ⟨rfl, BW.out.trans ((bel_then HB0.out B6).mono SZ.out)⟩
  · have hfacts := cliOk_facts x HQ.out
    have houts := outs_le HQ.out
    have hm : M = becomes 3 [0, 1] x.f4 := by rw [HMO.out]; exact if_pos HQ.out
    have hml : M.length = x.f4.length := by rw [hm, becomes_length]
    have HML := Lib.hid hml
    have HFL := Lib.hid hfacts.2.2.2
    have HAT := Lib.hid (fun (i : Nat) (h : i < x.f4.length) => (show M.getD i 0 = if x.f4.getD i 0 = 0 ∨ x.f4.getD i 0 = 1 then 3 else x.f4.getD i 0 by rw [hm]; exact becomes_at x.f4 i h))
    have HOU := Lib.hid houts
    have hMl := HOF.out.1
    clear hfacts houts hm hml
    go_wp2
    clear c0_ c1_ c2_ c3_ c4_ c5_ c6_ c7_
    go_loopg [5, 6] (M.length) (fun gq v5 _ wr => ∃ i : Nat, i ≤ M.length ∧ M.length - i ≤ gq ∧ v5 = .int .i64 (i : Int) ∧ Aside0 (Below W0.heap.size W0 wr) ∧ Aside0 (Kd.C (Kd.int .i64) wr D1 M.length M))
    case atStart => exact ⟨0, Nat.zero_le _, by omega, rfl, ⟨B5⟩, ⟨Kd.C_below G1.out b234⟩⟩
    case round =>
      clear b234
      obtain ⟨i, hi, hgi, rfl, BR, GR⟩ := hrel
      obtain ⟨c0_, c1_, c2_, c3_, c4_, c5_, c6_, c7_⟩ := HC.out _ BR.out
      by_cases hlt : i < M.length
      · have hlt' : (i : Int) < (M.length : Int) := by omega
        have hlx : i < x.f4.length := by rw [← HML.out]; exact hlt
        have hlx' : (i : Int) < (x.f4.length : Int) := by omega
        obtain ⟨ad, e1, p0⟩ := at_Int GR.out i hlt
        obtain ⟨ae, e2, r0⟩ := at_Int (Kd.C_below C2.out (bel_then HB0.out BR.out)) i hlx
        rw [HAT.out i hlx] at p0
        have hb := HOU.out (x.f4.getD i 0) (getD_mem x.f4 0 hlx)
        subst e1
        obtain rfl := e2
        generalize x.f4.getD i 0 = y at p0 r0 hb
        by_cases hk : 2 ≤ y
        · have hk' : decide ((2 : Int) ≤ y) = true := decide_eq_true hk
          rw [if_neg (by omega)] at p0
          have hyy : (y != y) = false := by simp
          go_wp2
          go_quiet (fail)
          go_wp2
          go_roundg (M.length - (i + 1))
          case measure => omega
          case rel => exact ⟨i + 1, by omega, Nat.le_refl _, by go_num, ⟨blw_drewN BR.out _⟩, ⟨Kd.C_below GR.out (blw_drewN (Below.refl _ _) _)⟩⟩
        · have hk' : decide ((2 : Int) ≤ y) = false := decide_eq_false hk
          rw [if_pos (by omega)] at p0
          go_wp2
          go_quiet (fail)
          go_wp2
          go_roundg (M.length - (i + 1))
          case measure => omega
          case rel => exact ⟨i + 1, by omega, Nat.le_refl _, by go_num, ⟨blw_drewN BR.out _⟩, ⟨Kd.C_below GR.out (blw_drewN (Below.refl _ _) _)⟩⟩
      · have hlt' : ¬ (i : Int) < (M.length : Int) := by omega
        have hel : ((M.length : Int) == (x.f1.f1.length : Int)) = true := by rw [HML.out, HFL.out]; exact beq_self_eq_true _
        go_wp2
        go_ret
        exact ⟨rfl, BW.out.trans ((bel_then HB0.out BR.out).mono SZ.out)⟩

end Go.Proofs.YtoppgnmnbbhghaaGreatDoor
